/- Copies of slots, and RecMerge of the reference and of the program. Conditions: none. -/
import Derived.Test.YtleilaipdhmgeaaRecOk
import Derived.Test.YtleilaipdhmgeaaAb4
import Derived.KernelRfl
set_option linter.unusedSimpArgs false
set_option linter.unusedVariables false
set_option linter.defProp false
open Go Go.Ab
set_option maxHeartbeats 2000000
namespace Go.Proofs.Ytleilaipdhmgeaa.W
def c_spec_l21Slots : C := (.seq (.ops [⟨(some 2), none, (.mv (.c .nils))⟩]) (.seq (.ops [⟨(some 3), none, (.lit none 2 0 [(.t (.int .i64 0)), (.t (.str []))] [])⟩, ⟨(some 4), none, (.mv (.t 0))⟩, ⟨(some 5), none, (.append 2 24 (.t 3) (.t 4))⟩, ⟨(some 2), none, (.mv (.t 5))⟩]) .ret))
theorem k_spec_l21Slots : comp Try.prog 6 (Try.f82.body.getD .skip) = some c_spec_l21Slots := by kernel_rfl

def c_impl_cloneSlots : C := (.seq (.ops [⟨(some 2), none, (.mv (.c .nils))⟩]) (.seq (.ops [⟨(some 3), none, (.mv (.t 0))⟩, ⟨(some 4), none, (.append 2 24 (.c .nils) (.t 3))⟩, ⟨(some 2), none, (.mv (.t 4))⟩]) .ret))
theorem k_impl_cloneSlots : comp Try.prog 5 (Try.f155.body.getD .skip) = some c_impl_cloneSlots := by kernel_rfl

def c_spec_RecMerge : C := (.seq (.ops [⟨(some 4), none, (.mv (.c .nils))⟩]) (.seq (.ops [⟨(some 7), none, (.mv (.t 0))⟩, ⟨(some 8), none, (.call (.c (.fn (.func 82) [])) [(.t 7)])⟩, ⟨(some 5), none, (.mv (.t 8))⟩]) (.seq (.seq (.ops [⟨(some 6), none, (.mv (.c (.t (.int .i64 0))))⟩]) (.block 0 (.loop (.seq (.seq (.ops [⟨(some 9), none, (.mv (.t 6))⟩, ⟨(some 10), none, (.mv (.t 1))⟩, ⟨(some 11), none, (.len false (.t 10))⟩, ⟨(some 12), none, (.bin .lss (.t 9) (.t 11))⟩]) (.cond (.t 12) .skip (.exit 0))) (.seq (.block 1 (.seq (.ops [⟨(some 15), none, (.mv (.t 6))⟩, ⟨(some 16), none, (.mv (.t 5))⟩, ⟨(some 17), none, (.len false (.t 16))⟩, ⟨(some 18), none, (.bin .eql (.t 15) (.t 17))⟩]) (.cond (.t 18) (.ops [⟨(some 19), none, (.mv (.t 5))⟩, ⟨(some 20), none, (.mv (.t 1))⟩, ⟨(some 21), none, (.mv (.t 6))⟩, ⟨(some 22), none, (.indexAddr 2 (.t 20) (.t 21))⟩, ⟨(some 23), none, (.load (some 2) (.t 22))⟩, ⟨(some 24), none, (.lit none 2 1 [(.t (.int .i64 0)), (.t (.str []))] [⟨0, (.t 23)⟩])⟩, ⟨(some 25), none, (.append 2 24 (.t 19) (.t 24))⟩, ⟨(some 5), none, (.mv (.t 25))⟩]) (.seq (.drawn [(.mk 0 false ⟨(some 26), none, (.mv (.t 1))⟩), (.mk 1 false ⟨(some 27), none, (.mv (.t 6))⟩), (.mk 2 false ⟨(some 28), none, (.indexAddr 2 (.t 26) (.t 27))⟩), (.mk 3 false ⟨(some 29), none, (.fieldAddr 0 (.t 28))⟩), (.mk 4 false ⟨(some 30), none, (.load none (.t 29))⟩), (.mk 5 false ⟨(some 31), none, (.mv (.t 5))⟩), (.mk 6 false ⟨(some 32), none, (.mv (.t 6))⟩), (.mk 7 false ⟨(some 33), none, (.indexAddr 2 (.t 31) (.t 32))⟩), (.mk 8 false ⟨(some 34), none, (.fieldAddr 0 (.t 33))⟩), (.mk 9 false ⟨(some 35), none, (.load none (.t 34))⟩), (.mk 10 false ⟨(some 36), none, (.bin .gtr (.t 30) (.t 35))⟩)]) (.cond (.t 36) (.ops [⟨(some 37), none, (.mv (.t 5))⟩, ⟨(some 38), none, (.mv (.t 6))⟩, ⟨(some 39), none, (.mv (.t 1))⟩, ⟨(some 40), none, (.mv (.t 6))⟩, ⟨(some 41), none, (.indexAddr 2 (.t 39) (.t 40))⟩, ⟨(some 42), none, (.load (some 2) (.t 41))⟩, ⟨(some 43), none, (.indexAddr 2 (.t 37) (.t 38))⟩, ⟨none, none, (.store 2 (.t 43) (.t 42))⟩]) .skip))))) (.ops [⟨(some 13), none, (.mv (.t 6))⟩, ⟨(some 14), none, (.bin .add (.t 13) (.c (.t (.int .i64 1))))⟩, ⟨(some 6), none, (.mv (.t 14))⟩])))))) (.seq (.ops [⟨(some 44), none, (.mv (.t 5))⟩, ⟨(some 4), none, (.mv (.t 44))⟩]) .ret))))
theorem k_spec_RecMerge : comp Try.prog 45 (Try.f22.body.getD .skip) = some c_spec_RecMerge := by kernel_rfl

def c_impl_RecMerge : C := (.seq (.ops [⟨(some 4), none, (.mv (.c .nils))⟩]) (.seq (.ops [⟨(some 8), none, (.mv (.t 0))⟩, ⟨(some 9), none, (.append 2 24 (.c .nils) (.t 8))⟩, ⟨(some 5), none, (.mv (.t 9))⟩]) (.seq (.seq (.ops [⟨(some 10), none, (.mv (.t 1))⟩, ⟨(some 11), none, (.len false (.t 10))⟩, ⟨(some 12), none, (.mv (.c (.t (.int .i64 0))))⟩]) (.block 0 (.loop (.seq (.ops [⟨(some 13), none, (.bin .lss (.t 12) (.t 11))⟩]) (.seq (.cond (.t 13) .skip (.exit 0)) (.seq (.block 1 (.seq (.ops [⟨(some 14), none, (.mv (.t 12))⟩, ⟨(some 15), none, (.indexAddr 2 (.t 10) (.t 12))⟩, ⟨(some 16), none, (.load (some 2) (.t 15))⟩, ⟨(some 7), none, (.new [(.t (.int .i64 0)), (.t (.str []))])⟩, ⟨(some 6), none, (.mv (.t 14))⟩, ⟨none, none, (.store 2 (.t 7) (.t 16))⟩]) (.block 2 (.seq (.ops [⟨(some 18), none, (.mv (.t 6))⟩, ⟨(some 19), none, (.mv (.t 5))⟩, ⟨(some 20), none, (.len false (.t 19))⟩, ⟨(some 21), none, (.bin .geq (.t 18) (.t 20))⟩, ⟨(some 17), none, (.mv (.t 21))⟩]) (.cond (.t 17) (.ops [⟨(some 22), none, (.mv (.t 5))⟩, ⟨(some 23), none, (.load (some 2) (.t 7))⟩, ⟨(some 24), none, (.lit none 2 1 [(.t (.int .i64 0)), (.t (.str []))] [⟨0, (.t 23)⟩])⟩, ⟨(some 25), none, (.append 2 24 (.t 22) (.t 24))⟩, ⟨(some 5), none, (.mv (.t 25))⟩]) (.seq (.drawn [(.mk 0 false ⟨(some 27), none, (.fieldAddr 0 (.t 7))⟩), (.mk 1 false ⟨(some 28), none, (.load none (.t 27))⟩), (.mk 2 false ⟨(some 29), none, (.mv (.t 5))⟩), (.mk 3 false ⟨(some 30), none, (.mv (.t 6))⟩), (.mk 4 false ⟨(some 31), none, (.indexAddr 2 (.t 29) (.t 30))⟩), (.mk 5 false ⟨(some 32), none, (.fieldAddr 0 (.t 31))⟩), (.mk 6 false ⟨(some 33), none, (.load none (.t 32))⟩), (.mk 7 false ⟨(some 34), none, (.bin .gtr (.t 28) (.t 33))⟩), (.mk 8 false ⟨(some 26), none, (.mv (.t 34))⟩)]) (.cond (.t 26) (.ops [⟨(some 35), none, (.mv (.t 5))⟩, ⟨(some 36), none, (.mv (.t 6))⟩, ⟨(some 37), none, (.load (some 2) (.t 7))⟩, ⟨(some 38), none, (.indexAddr 2 (.t 35) (.t 36))⟩, ⟨none, none, (.store 2 (.t 38) (.t 37))⟩]) .skip))))))) (.ops [⟨(some 39), none, (.bin .add (.t 12) (.c (.t (.int .i64 1))))⟩, ⟨(some 12), none, (.mv (.t 39))⟩]))))))) (.seq (.ops [⟨(some 40), none, (.mv (.t 5))⟩, ⟨(some 4), none, (.mv (.t 40))⟩]) .ret))))
theorem k_impl_RecMerge : comp Try.prog 41 (Try.f24.body.getD .skip) = some c_impl_RecMerge := by kernel_rfl

theorem slot_flat (l : List RecSlot) : ∀ r ∈ l.map RecSlot.ts, ∀ t ∈ r, scalar t = true := by
  intro r hr t ht
  obtain ⟨x, _, rfl⟩ := List.mem_map.1 hr
  simp only [RecSlot.ts, List.mem_cons, List.not_mem_nil, or_false] at ht
  rcases ht with rfl | rfl <;> rfl
theorem spec_l21Slots' (l : List RecSlot) (hl : l.length ≤ 1048576) (σ : Store) : ACalls Try.prog 82 [.t (tRecSlotS l)] σ (Anew 2 (l.map RecSlot.ts) σ) := by
  refine acalls_of Try.func82 (by decide +kernel) (code := Try.f82.body.getD .skip) (n := 6) (c := c_spec_l21Slots) (rs := [(.tmp 2)]) rfl rfl k_spec_l21Slots (by kernel_rfl) (by simp) (fun hσ => ?_)
  have b1 : l.length * 24 ≤ maxBy := by simp only [maxBy]; omega
  have b2 : l.length ≤ 9223372036854775807 := by omega
  simp -implicitDefEqProofs only [c_spec_l21Slots, tRecSlotS, S0, S1, S2, S3, S4, S5, S6, S7, S8, S9, S10, S11, S12, S13, S14, S15, opv, opvs, eget, env0, setD, lenStr, lenSl, isNilP, isNilS, putAt, if_true, if_false, reduceCtorEq, Nat.reduceLeDiff, Nat.reduceEqDiff, Nat.reduceSub, Nat.reduceMul, Nat.reduceAdd]
  refine lit_own ?_
  simp -implicitDefEqProofs only [List.length_map, b1, b2, S0, S1, S2, S3, S4, S5, S6, S7, S8, S9, S10, S11, S12, S13, S14, S15, opv, opvs, eget, env0, setD, lenStr, lenSl, isNilP, isNilS, putAt, if_true, if_false, reduceCtorEq, Nat.reduceLeDiff, Nat.reduceEqDiff, Nat.reduceSub, Nat.reduceMul, Nat.reduceAdd]
  exact fin_keep (by simp) ⟨by simp [mkRes], by simp [tObj]⟩
theorem impl_cloneSlots' (l : List RecSlot) (hl : l.length ≤ 1048576) (σ : Store) : ACalls Try.prog 155 [.t (tRecSlotS l)] σ (Anew 2 (l.map RecSlot.ts) σ) := by
  refine acalls_of Try.func155 (by decide +kernel) (code := Try.f155.body.getD .skip) (n := 5) (c := c_impl_cloneSlots) (rs := [(.tmp 2)]) rfl rfl k_impl_cloneSlots (by kernel_rfl) (by simp) (fun hσ => ?_)
  have b1 : l.length * 24 ≤ maxBy := by simp only [maxBy]; omega
  have b2 : l.length ≤ 9223372036854775807 := by omega
  simp -implicitDefEqProofs only [c_impl_cloneSlots, tRecSlotS, List.length_map, b1, b2, S0, S1, S2, S3, S4, S5, S6, S7, S8, S9, S10, S11, S12, S13, S14, S15, opv, opvs, eget, env0, setD, lenStr, lenSl, isNilP, isNilS, putAt, if_true, if_false, reduceCtorEq, Nat.reduceLeDiff, Nat.reduceEqDiff, Nat.reduceSub, Nat.reduceMul, Nat.reduceAdd]
  exact fin_keep (by simp) ⟨by simp [mkRes], by simp [tObj]⟩
/-- One place of what is merged. -/
def mstep (m : List RecSlot) (i : Nat) (y : RecSlot) : List RecSlot :=
  match m[i]? with
  | some x => if y.Ballot > x.Ballot then m.set i y else m
  | none => m ++ [y]
def mfold : List RecSlot → Nat → List RecSlot → List RecSlot
  | m, _, [] => m
  | m, i, y :: b => mfold (mstep m i y) (i + 1) b
theorem mstep_len {m : List RecSlot} {i : Nat} {y : RecSlot} (h : i ≤ m.length) : i + 1 ≤ (mstep m i y).length ∧ (mstep m i y).length ≤ m.length + 1 := by
  unfold mstep
  split
  · rename_i x hx
    have := (List.getElem?_eq_some_iff.1 hx).1
    split <;> simp <;> omega
  · rename_i hx
    have := List.getElem?_eq_none_iff.1 hx
    simp; omega
theorem lookT (rows : List RecSlot) (i : Nat) : ((rows.map RecSlot.ts).map fun r => r.map V.t)[i]? = (rows[i]?).map fun x => [V.t (.int .i64 x.Ballot), .t (.str x.Text)] := by
  simp only [List.getElem?_map, Option.map_map]
  rfl
theorem spec_RecMerge (a b : List RecSlot) (ha : a.length ≤ 1048576) (hb : b.length ≤ 1048576) (σ : Store) : ACalls Try.prog 22 [.t (tRecSlotS a), .t (tRecSlotS b)] σ (Anew 2 ((mfold a 0 b).map RecSlot.ts) σ) := by
  refine acalls_of Try.func22 (by decide +kernel) (code := Try.f22.body.getD .skip) (n := 45) (c := c_spec_RecMerge) (rs := [(.tmp 4)]) rfl rfl k_spec_RecMerge (by kernel_rfl) (by simp) (fun hσ => ?_)
  simp -implicitDefEqProofs only [c_spec_RecMerge, S0, S1, S2, S3, S4, S5, S6, S7, S8, S9, S10, S11, S12, S13, S14, S15, opv, opvs, eget, env0, setD, lenStr, lenSl, isNilP, isNilS, putAt, if_true, if_false, reduceCtorEq, Nat.reduceLeDiff, Nat.reduceEqDiff, Nat.reduceSub, Nat.reduceMul, Nat.reduceAdd]
  refine call_by (by rw [List.append_nil]; exact spec_l21Slots' a ha _) ?_
  rintro r σ' ⟨rfl, rfl⟩
  simp -implicitDefEqProofs only [tRecSlotS, List.length_map, S0, S1, S2, S3, S4, S5, S6, S7, S8, S9, S10, S11, S12, S13, S14, S15, opv, opvs, eget, env0, setD, lenStr, lenSl, isNilP, isNilS, putAt, if_true, if_false, reduceCtorEq, Nat.reduceLeDiff, Nat.reduceEqDiff, Nat.reduceSub, Nat.reduceMul, Nat.reduceAdd]
  refine loop_s [5, 6, 1] [1] (fun x : Nat × List RecSlot => [(5, .sl σ.length x.2.length 0 x.2.length), (6, .t (.int .i64 (x.1 : Nat)))]) (fun x => σ ++ [tObj 2 (x.2.map RecSlot.ts)]) (fun x => x.1 ≤ b.length ∧ x.1 ≤ x.2.length ∧ x.2.length ≤ a.length + x.1 ∧ mfold x.2 x.1 (b.drop x.1) = mfold a 0 b) (fun x => b.length - x.1) (0, a) (σ.length + 1) (by simp) (by omega) ⟨Nat.zero_le _, Nat.zero_le _, Nat.le_refl _, rfl⟩ rfl rfl ?_
  rintro ⟨i, m⟩ ⟨hi, him, hml, hm⟩
  simp only at hi him hml hm
  simp -implicitDefEqProofs only [keep, List.length_map, tObj, S0, S1, S2, S3, S4, S5, S6, S7, S8, S9, S10, S11, S12, S13, S14, S15, opv, opvs, eget, env0, setD, lenStr, lenSl, isNilP, isNilS, putAt, if_true, if_false, reduceCtorEq, Nat.reduceLeDiff, Nat.reduceEqDiff, Nat.reduceSub, Nat.reduceMul, Nat.reduceAdd]
  refine cond_split (fun h1 => ?_) (fun h1 => ?_)
  · obtain ⟨y, hy, hlt⟩ := at_of h1
    rw [drop_of hy] at hm
    have hm' : mfold (mstep m i y) (i + 1) (b.drop (i + 1)) = mfold a 0 b := hm
    obtain ⟨l1, l2⟩ := mstep_len (y := y) him
    have more := i64_succ (show i < 4611686018427387904 by omega)
    have b1 : (m.length + 1) * 24 ≤ maxBy := by simp only [maxBy]; omega
    have b2 : m.length ≤ 9223372036854775806 := by omega
    have c0 : 0 < 1 := by omega
    simp -implicitDefEqProofs only [S0, S1, S2, S3, S4, S5, S6, S7, S8, S9, S10, S11, S12, S13, S14, S15, opv, opvs, eget, env0, setD, lenStr, lenSl, isNilP, isNilS, putAt, if_true, if_false, reduceCtorEq, Nat.reduceLeDiff, Nat.reduceEqDiff, Nat.reduceSub, Nat.reduceMul, Nat.reduceAdd]
    refine cond_split (fun h2 => ?_) (fun h2 => ?_)
    · have hmi : m.length = i := by have : (i : Int) = m.length := by simpa using h2
                                    omega
      have hst : mstep m i y = m ++ [y] := by unfold mstep; rw [List.getElem?_eq_none (by omega)]
      simp -implicitDefEqProofs only [hy, c0, nat_nn, List.getElem?_map, Option.map_some, RecSlot.ts, List.length_map, S0, S1, S2, S3, S4, S5, S6, S7, S8, S9, S10, S11, S12, S13, S14, S15, opv, opvs, eget, env0, setD, lenStr, lenSl, isNilP, isNilS, putAt, if_true, if_false, reduceCtorEq, Nat.reduceLeDiff, Nat.reduceEqDiff, Nat.reduceSub, Nat.reduceMul, Nat.reduceAdd]
      refine lit_rows ?_
      have hrow : ((([[V.t (.int .i64 y.Ballot), V.t (.str y.Text)]] : List (List V)).all fun r => r.all one) = true) := rfl
      simp -implicitDefEqProofs only [q_rows_r _ _ hrow, List.length_map, b1, b2, more, S0, S1, S2, S3, S4, S5, S6, S7, S8, S9, S10, S11, S12, S13, S14, S15, opv, opvs, eget, env0, setD, lenStr, lenSl, isNilP, isNilS, putAt, if_true, if_false, reduceCtorEq, Nat.reduceLeDiff, Nat.reduceEqDiff, Nat.reduceSub, Nat.reduceMul, Nat.reduceAdd]
      refine lk_s0 (i + 1, m ++ [y]) (by simp) (by omega) (by simp [tObj, RecSlot.ts]) (by simp only; omega) ⟨by simp only; omega, by simp; omega, by simp; omega, by simp only; rw [← hst]; exact hm'⟩ ?_
      simp [keep, eget]
    · have hmi : i < m.length := by have : ¬ (i : Int) = m.length := by simpa using h2
                                    omega
      obtain ⟨x, hx⟩ : ∃ x, m[i]? = some x := ⟨m[i], by simp [hmi]⟩
      have c1 : (i : Int) < (m.length : Int) := by omega
      simp -implicitDefEqProofs only [hy, hx, c1, nat_nn, List.getElem?_map, Option.map_some, RecSlot.ts, List.length_map, S0, S1, S2, S3, S4, S5, S6, S7, S8, S9, S10, S11, S12, S13, S14, S15, opv, opvs, eget, env0, setD, lenStr, lenSl, isNilP, isNilS, putAt, if_true, if_false, reduceCtorEq, Nat.reduceLeDiff, Nat.reduceEqDiff, Nat.reduceSub, Nat.reduceMul, Nat.reduceAdd]
      refine cond_split (fun h3 => ?_) (fun h3 => ?_)
      · have hst : mstep m i y = m.set i y := by unfold mstep; rw [hx]; simp only; rw [if_pos (by simpa using h3)]
        simp -implicitDefEqProofs only [hy, hx, c1, nat_nn, List.getElem?_map, Option.map_some, RecSlot.ts, List.length_map, more, S0, S1, S2, S3, S4, S5, S6, S7, S8, S9, S10, S11, S12, S13, S14, S15, opv, opvs, eget, env0, setD, lenStr, lenSl, isNilP, isNilS, putAt, if_true, if_false, reduceCtorEq, Nat.reduceLeDiff, Nat.reduceEqDiff, Nat.reduceSub, Nat.reduceMul, Nat.reduceAdd]
        refine lk_s0 (i + 1, m.set i y) (by simp) (by omega) ?_ (by simp only; omega) ⟨by simp only; omega, by simp; omega, by simp; omega, by simp only; rw [← hst]; exact hm'⟩ ?_
        · simp [tObj, RecSlot.ts, List.map_set]
        · simp [keep, eget]
      · have hst : mstep m i y = m := by unfold mstep; rw [hx]; simp only; rw [if_neg (by simpa using h3)]
        simp -implicitDefEqProofs only [hy, hx, c1, nat_nn, List.getElem?_map, Option.map_some, RecSlot.ts, List.length_map, more, S0, S1, S2, S3, S4, S5, S6, S7, S8, S9, S10, S11, S12, S13, S14, S15, opv, opvs, eget, env0, setD, lenStr, lenSl, isNilP, isNilS, putAt, if_true, if_false, reduceCtorEq, Nat.reduceLeDiff, Nat.reduceEqDiff, Nat.reduceSub, Nat.reduceMul, Nat.reduceAdd]
        refine lk_s0 (i + 1, m) (by simp) (by omega) (by simp [tObj, RecSlot.ts]) (by simp only; omega) ⟨by simp only; omega, by simp only; omega, by simp only; omega, by simp only; rw [← hst]; rw [hst]; rw [hst] at hm'; exact hm'⟩ ?_
        simp [keep, eget]
  · have hkk := end_of h1 hi
    rw [hkk, List.drop_length] at hm
    have hm' : m = mfold a 0 b := hm
    simp -implicitDefEqProofs only [S0, S1, S2, S3, S4, S5, S6, S7, S8, S9, S10, S11, S12, S13, S14, S15, opv, opvs, eget, env0, setD, lenStr, lenSl, isNilP, isNilS, putAt, if_true, if_false, reduceCtorEq, Nat.reduceLeDiff, Nat.reduceEqDiff, Nat.reduceSub, Nat.reduceMul, Nat.reduceAdd]
    refine fin_keep (by simp) ⟨?_, ?_⟩
    · rw [← hm']; simp [mkRes]
    · rw [← hm']
theorem impl_RecMerge (a b : List RecSlot) (ha : a.length ≤ 1048576) (hb : b.length ≤ 1048576) (σ : Store) : ACalls Try.prog 24 [.t (tRecSlotS a), .t (tRecSlotS b)] σ (Anew 2 ((mfold a 0 b).map RecSlot.ts) σ) := by
  refine acalls_of Try.func24 (by decide +kernel) (code := Try.f24.body.getD .skip) (n := 41) (c := c_impl_RecMerge) (rs := [(.tmp 4)]) rfl rfl k_impl_RecMerge (by kernel_rfl) (by simp) (fun hσ => ?_)
  have b1 : a.length * 24 ≤ maxBy := by simp only [maxBy]; omega
  have b2 : a.length ≤ 9223372036854775807 := by omega
  simp -implicitDefEqProofs only [c_impl_RecMerge, tRecSlotS, List.length_map, b1, b2, S0, S1, S2, S3, S4, S5, S6, S7, S8, S9, S10, S11, S12, S13, S14, S15, opv, opvs, eget, env0, setD, lenStr, lenSl, isNilP, isNilS, putAt, if_true, if_false, reduceCtorEq, Nat.reduceLeDiff, Nat.reduceEqDiff, Nat.reduceSub, Nat.reduceMul, Nat.reduceAdd]
  refine loop_s [5, 12, 10, 11] [10, 11] (fun x : Nat × List RecSlot => [(5, .sl σ.length x.2.length 0 x.2.length), (12, .t (.int .i64 (x.1 : Nat)))]) (fun x => σ ++ [tObj 2 (x.2.map RecSlot.ts)]) (fun x => x.1 ≤ b.length ∧ x.1 ≤ x.2.length ∧ x.2.length ≤ a.length + x.1 ∧ mfold x.2 x.1 (b.drop x.1) = mfold a 0 b) (fun x => b.length - x.1) (0, a) (σ.length + 1) (by simp) (by omega) ⟨Nat.zero_le _, Nat.zero_le _, Nat.le_refl _, rfl⟩ (by simp [tObj]) rfl ?_
  rintro ⟨i, m⟩ ⟨hi, him, hml, hm⟩
  simp only at hi him hml hm
  simp -implicitDefEqProofs only [keep, List.length_map, tObj, S0, S1, S2, S3, S4, S5, S6, S7, S8, S9, S10, S11, S12, S13, S14, S15, opv, opvs, eget, env0, setD, lenStr, lenSl, isNilP, isNilS, putAt, if_true, if_false, reduceCtorEq, Nat.reduceLeDiff, Nat.reduceEqDiff, Nat.reduceSub, Nat.reduceMul, Nat.reduceAdd]
  refine cond_split (fun h1 => ?_) (fun h1 => ?_)
  · obtain ⟨y, hy, hlt⟩ := at_of h1
    rw [drop_of hy] at hm
    have hm' : mfold (mstep m i y) (i + 1) (b.drop (i + 1)) = mfold a 0 b := hm
    obtain ⟨l1, l2⟩ := mstep_len (y := y) him
    have more := i64_succ (show i < 4611686018427387904 by omega)
    have b1 : (m.length + 1) * 24 ≤ maxBy := by simp only [maxBy]; omega
    have b2 : m.length ≤ 9223372036854775806 := by omega
    have c0 : 0 < 1 := by omega
    simp -implicitDefEqProofs only [hy, c0, nat_nn, List.getElem?_map, Option.map_some, RecSlot.ts, List.length_map, S0, S1, S2, S3, S4, S5, S6, S7, S8, S9, S10, S11, S12, S13, S14, S15, opv, opvs, eget, env0, setD, lenStr, lenSl, isNilP, isNilS, putAt, if_true, if_false, reduceCtorEq, Nat.reduceLeDiff, Nat.reduceEqDiff, Nat.reduceSub, Nat.reduceMul, Nat.reduceAdd]
    refine cond_split (fun h2 => ?_) (fun h2 => ?_)
    · have hmi : m.length = i := by have : (m.length : Int) ≤ i := by simpa using h2
                                    omega
      have hst : mstep m i y = m ++ [y] := by unfold mstep; rw [List.getElem?_eq_none (by omega)]
      simp -implicitDefEqProofs only [hy, c0, nat_nn, List.getElem?_map, Option.map_some, RecSlot.ts, List.length_map, S0, S1, S2, S3, S4, S5, S6, S7, S8, S9, S10, S11, S12, S13, S14, S15, opv, opvs, eget, env0, setD, lenStr, lenSl, isNilP, isNilS, putAt, if_true, if_false, reduceCtorEq, Nat.reduceLeDiff, Nat.reduceEqDiff, Nat.reduceSub, Nat.reduceMul, Nat.reduceAdd]
      refine lit_rows ?_
      have hrow : ((([[V.t (.int .i64 y.Ballot), V.t (.str y.Text)]] : List (List V)).all fun r => r.all one) = true) := rfl
      simp -implicitDefEqProofs only [q_rows_r _ _ hrow, List.length_map, b1, b2, more, S0, S1, S2, S3, S4, S5, S6, S7, S8, S9, S10, S11, S12, S13, S14, S15, opv, opvs, eget, env0, setD, lenStr, lenSl, isNilP, isNilS, putAt, if_true, if_false, reduceCtorEq, Nat.reduceLeDiff, Nat.reduceEqDiff, Nat.reduceSub, Nat.reduceMul, Nat.reduceAdd]
      refine lk_s (i + 1, m ++ [y]) (τ := [.box [.t (.int .i64 y.Ballot), .t (.str y.Text)]]) (by simp) (by omega) (by simp [tObj, RecSlot.ts]) (by simp only; omega) ⟨by simp only; omega, by simp; omega, by simp; omega, by simp only; rw [← hst]; exact hm'⟩ (lt_st1 hσ) (by simp [keep, eget, ltE, V.lt]) ?_
      simp [keep, eget]
    · have hmi : i < m.length := by have : ¬ (m.length : Int) ≤ i := by simpa using h2
                                    omega
      obtain ⟨x, hx⟩ : ∃ x, m[i]? = some x := ⟨m[i], by simp [hmi]⟩
      have c1 : (i : Int) < (m.length : Int) := by omega
      simp -implicitDefEqProofs only [hy, hx, c1, nat_nn, List.getElem?_map, Option.map_some, RecSlot.ts, List.length_map, S0, S1, S2, S3, S4, S5, S6, S7, S8, S9, S10, S11, S12, S13, S14, S15, opv, opvs, eget, env0, setD, lenStr, lenSl, isNilP, isNilS, putAt, if_true, if_false, reduceCtorEq, Nat.reduceLeDiff, Nat.reduceEqDiff, Nat.reduceSub, Nat.reduceMul, Nat.reduceAdd]
      refine cond_split (fun h3 => ?_) (fun h3 => ?_)
      · have hst : mstep m i y = m.set i y := by unfold mstep; rw [hx]; simp only; rw [if_pos (by simpa using h3)]
        simp -implicitDefEqProofs only [hy, hx, c1, nat_nn, List.getElem?_map, Option.map_some, RecSlot.ts, List.length_map, more, S0, S1, S2, S3, S4, S5, S6, S7, S8, S9, S10, S11, S12, S13, S14, S15, opv, opvs, eget, env0, setD, lenStr, lenSl, isNilP, isNilS, putAt, if_true, if_false, reduceCtorEq, Nat.reduceLeDiff, Nat.reduceEqDiff, Nat.reduceSub, Nat.reduceMul, Nat.reduceAdd]
        refine lk_s (i + 1, m.set i y) (τ := [.box [.t (.int .i64 y.Ballot), .t (.str y.Text)]]) (by simp) (by omega) ?_ (by simp only; omega) ⟨by simp only; omega, by simp; omega, by simp; omega, by simp only; rw [← hst]; exact hm'⟩ (lt_st1 hσ) (by simp [keep, eget, ltE, V.lt]) ?_
        · simp [tObj, RecSlot.ts, List.map_set]
        · simp [keep, eget]
      · have hst : mstep m i y = m := by unfold mstep; rw [hx]; simp only; rw [if_neg (by simpa using h3)]
        simp -implicitDefEqProofs only [hy, hx, c1, nat_nn, List.getElem?_map, Option.map_some, RecSlot.ts, List.length_map, more, S0, S1, S2, S3, S4, S5, S6, S7, S8, S9, S10, S11, S12, S13, S14, S15, opv, opvs, eget, env0, setD, lenStr, lenSl, isNilP, isNilS, putAt, if_true, if_false, reduceCtorEq, Nat.reduceLeDiff, Nat.reduceEqDiff, Nat.reduceSub, Nat.reduceMul, Nat.reduceAdd]
        refine lk_s (i + 1, m) (τ := [.box [.t (.int .i64 y.Ballot), .t (.str y.Text)]]) (by simp) (by omega) (by simp [tObj, RecSlot.ts]) (by simp only; omega) ⟨by simp only; omega, by simp only; omega, by simp only; omega, by simp only; rw [← hst]; rw [hst]; rw [hst] at hm'; exact hm'⟩ (lt_st1 hσ) (by simp [keep, eget, ltE, V.lt]) ?_
        simp [keep, eget]
  · have hkk := end_of h1 hi
    rw [hkk, List.drop_length] at hm
    have hm' : m = mfold a 0 b := hm
    simp -implicitDefEqProofs only [S0, S1, S2, S3, S4, S5, S6, S7, S8, S9, S10, S11, S12, S13, S14, S15, opv, opvs, eget, env0, setD, lenStr, lenSl, isNilP, isNilS, putAt, if_true, if_false, reduceCtorEq, Nat.reduceLeDiff, Nat.reduceEqDiff, Nat.reduceSub, Nat.reduceMul, Nat.reduceAdd]
    refine fin_keep (by simp) ⟨?_, ?_⟩
    · rw [← hm']; simp [mkRes]
    · rw [← hm']
end Go.Proofs.Ytleilaipdhmgeaa.W
