/- RecBook of the reference and of the program: what each makes anew. Conditions: none. -/
import Derived.Test.YtleilaipdhmgeaaRecValid
import Derived.Test.YtleilaipdhmgeaaAb4
import Derived.KernelRfl
set_option linter.unusedSimpArgs false
set_option linter.unusedVariables false
set_option linter.defProp false
open Go Go.Ab
set_option maxHeartbeats 2000000
namespace Go.Proofs.Ytleilaipdhmgeaa.W
def c_spec_RecBook : C := (.seq (.ops [⟨(some 1), none, (.box (.t 0))⟩, ⟨(some 2), none, (.mv (.c .nils))⟩]) (.seq (.ops [⟨(some 5), none, (.lit none 1 0 [(.t (.str []))] [])⟩, ⟨(some 3), none, (.mv (.t 5))⟩]) (.seq (.seq (.ops [⟨(some 6), none, (.load (some 18) (.t 1))⟩, ⟨(some 7), none, (.call (.c (.fn (.func 44) [])) [(.t 6)])⟩, ⟨(some 8), none, (.un .not (.t 7))⟩]) (.cond (.t 8) (.seq (.ops [⟨(some 9), none, (.mv (.t 3))⟩, ⟨(some 2), none, (.mv (.t 9))⟩]) .ret) .skip)) (.seq (.seq (.ops [⟨(some 4), none, (.mv (.c (.t (.int .i64 0))))⟩]) (.block 0 (.loop (.seq (.seq (.ops [⟨(some 10), none, (.mv (.t 4))⟩, ⟨(some 11), none, (.fieldAddr 6 (.t 1))⟩, ⟨(some 12), none, (.fieldAddr 1 (.t 11))⟩, ⟨(some 13), none, (.load none (.t 12))⟩, ⟨(some 14), none, (.bin .lss (.t 10) (.t 13))⟩]) (.cond (.t 14) .skip (.exit 0))) (.seq (.block 1 (.ops [⟨(some 17), none, (.mv (.t 3))⟩, ⟨(some 18), none, (.fieldAddr 6 (.t 1))⟩, ⟨(some 19), none, (.fieldAddr 2 (.t 18))⟩, ⟨(some 20), none, (.load none (.t 19))⟩, ⟨(some 21), none, (.mv (.t 4))⟩, ⟨(some 22), none, (.indexAddr 2 (.t 20) (.t 21))⟩, ⟨(some 23), none, (.fieldAddr 1 (.t 22))⟩, ⟨(some 24), none, (.load none (.t 23))⟩, ⟨(some 25), none, (.lit none 1 1 [(.t (.str []))] [⟨0, (.t 24)⟩])⟩, ⟨(some 26), none, (.append 1 16 (.t 17) (.t 25))⟩, ⟨(some 3), none, (.mv (.t 26))⟩])) (.ops [⟨(some 15), none, (.mv (.t 4))⟩, ⟨(some 16), none, (.bin .add (.t 15) (.c (.t (.int .i64 1))))⟩, ⟨(some 4), none, (.mv (.t 16))⟩])))))) (.seq (.ops [⟨(some 27), none, (.mv (.t 3))⟩, ⟨(some 2), none, (.mv (.t 27))⟩]) .ret)))))
theorem k_spec_RecBook : comp Try.prog 28 (Try.f52.body.getD .skip) = some c_spec_RecBook := by kernel_rfl

def c_impl_RecBook : C := (.seq (.ops [⟨(some 1), none, (.box (.t 0))⟩, ⟨(some 2), none, (.mv (.c .nils))⟩]) (.seq (.seq (.ops [⟨(some 3), none, (.load (some 18) (.t 1))⟩, ⟨(some 4), none, (.call (.c (.fn (.func 46) [])) [(.t 3)])⟩, ⟨(some 5), none, (.un .not (.t 4))⟩]) (.cond (.t 5) (.seq (.ops [⟨(some 2), none, (.mv (.c .nils))⟩]) .ret) .skip)) (.seq (.ops [⟨(some 6), none, (.call (.c (.fn (.func 119) [])) [(.t 1)])⟩, ⟨(some 2), none, (.mv (.t 6))⟩]) .ret)))
theorem k_impl_RecBook : comp Try.prog 7 (Try.f53.body.getD .skip) = some c_impl_RecBook := by kernel_rfl

def c___impl_Recorder__book : C := (.seq (.ops [⟨(some 2), none, (.mv (.c .nils))⟩]) (.seq (.ops [⟨(some 3), none, (.mv (.c .nils))⟩]) (.seq (.seq (.drawn [(.mk 0 false ⟨(some 6), none, (.mv (.t 0))⟩), (.mk 1 false ⟨(some 7), none, (.nilCheck (.t 6))⟩), (.mk 2 false ⟨(some 8), none, (.fieldAddr 6 (.t 7))⟩), (.mk 3 false ⟨(some 9), none, (.fieldAddr 2 (.t 8))⟩), (.mk 4 false ⟨(some 10), none, (.load none (.t 9))⟩), (.mk 5 false ⟨(some 11), none, (.mv (.t 0))⟩), (.mk 6 false ⟨(some 12), none, (.nilCheck (.t 11))⟩), (.mk 7 false ⟨(some 13), none, (.fieldAddr 6 (.t 12))⟩), (.mk 8 false ⟨(some 14), none, (.fieldAddr 1 (.t 13))⟩), (.mk 9 false ⟨(some 15), none, (.load none (.t 14))⟩), (.mk 10 false ⟨(some 16), none, (.sliceSl 2 (.t 10) none (some (.t 15)))⟩), (.mk 11 false ⟨(some 17), none, (.len false (.t 16))⟩), (.mk 12 false ⟨(some 18), none, (.mv (.c (.t (.int .i64 0))))⟩)]) (.block 0 (.loop (.seq (.ops [⟨(some 19), none, (.bin .lss (.t 18) (.t 17))⟩]) (.seq (.cond (.t 19) .skip (.exit 0)) (.seq (.block 1 (.seq (.ops [⟨(some 20), none, (.indexAddr 2 (.t 16) (.t 18))⟩, ⟨(some 21), none, (.load (some 2) (.t 20))⟩, ⟨(some 5), none, (.new [(.t (.int .i64 0)), (.t (.str []))])⟩, ⟨none, none, (.store 2 (.t 5) (.t 21))⟩]) (.ops [⟨(some 22), none, (.mv (.t 3))⟩, ⟨(some 23), none, (.fieldAddr 1 (.t 5))⟩, ⟨(some 24), none, (.load none (.t 23))⟩, ⟨(some 25), none, (.lit none 1 1 [(.t (.str []))] [⟨0, (.t 24)⟩])⟩, ⟨(some 26), none, (.append 1 16 (.t 22) (.t 25))⟩, ⟨(some 3), none, (.mv (.t 26))⟩]))) (.ops [⟨(some 27), none, (.bin .add (.t 18) (.c (.t (.int .i64 1))))⟩, ⟨(some 18), none, (.mv (.t 27))⟩]))))))) (.seq (.ops [⟨(some 28), none, (.mv (.t 3))⟩, ⟨(some 2), none, (.mv (.t 28))⟩]) .ret))))
theorem k___impl_Recorder__book : comp Try.prog 29 (Try.f119.body.getD .skip) = some c___impl_Recorder__book := by kernel_rfl

def strRows (l : List (List UInt8)) : List (List V) := l.map fun s => [.t (.str s)]
theorem strRows_len (l : List (List UInt8)) : (strRows l).length = l.length := by simp [strRows]
theorem own_strs {σ : Store} {id : Nat} {l : List (List UInt8)} (h : σ[id]? = some (.slc 1 (strRows l))) : Own σ (tStrs l) (.sl id l.length 0 l.length) [id] := by
  have key : ∀ l : List (List UInt8), OwnR σ (l.map tStr) (strRows l) [] := by
    intro l
    induction l with
    | nil => simp [strRows, OwnR]
    | cons s l ih =>
      simp only [strRows, List.map_cons]
      exact OwnR.cons (i := []) (j := []) (.str .nil0) ih
  simp only [tStrs, Own]
  exact ⟨by omega, .inr ⟨id, [], strRows l, rfl, by rw [strRows_len], h, key l⟩⟩
def textsOf (l : List RecSlot) : List (List UInt8) := l.map RecSlot.Text
def bookR (r : Recorder) : List (List UInt8) := if validR r then textsOf (r.Disk.Slots.take r.Disk.Known.toNat) else []
theorem known_le {r : Recorder} (h : validR r = true) : 0 ≤ r.Disk.Known ∧ r.Disk.Known ≤ r.Disk.Slots.length := by grind [validR, diskOk, wi]
theorem texts_step {l : List RecSlot} {k : Nat} {x : RecSlot} (h : l[k]? = some x) : strRows (textsOf (l.take (k + 1))) = strRows (textsOf (l.take k)) ++ [[.t (.str x.Text)]] := by
  rw [take_of h]; simp [textsOf, strRows]

theorem spec_RecBook (r : Recorder) (hr : r.Ok) (σ : Store) : ACalls Try.prog 52 [.agg r.vs] σ (ToR (tStrs (bookR r)) σ) := by
  refine acalls_of Try.func52 (by decide +kernel) (code := Try.f52.body.getD .skip) (n := 28) (c := c_spec_RecBook) (rs := [(.tmp 2)]) rfl rfl k_spec_RecBook (by kernel_rfl) (by simp) (fun hσ => ?_)
  have y1 := hr.Disk.Slots.1
  simp -implicitDefEqProofs only [c_spec_RecBook, Recorder.vs, S0, S1, S2, S3, S4, S5, S6, S7, S8, S9, S10, S11, S12, S13, S14, S15, opv, opvs, eget, env0, setD, lenStr, lenSl, isNilP, isNilS, putAt, if_true, if_false, reduceCtorEq, Nat.reduceLeDiff, Nat.reduceEqDiff, Nat.reduceSub, Nat.reduceMul, Nat.reduceAdd]
  refine lit_own ?_
  simp -implicitDefEqProofs only [Recorder.vs, S0, S1, S2, S3, S4, S5, S6, S7, S8, S9, S10, S11, S12, S13, S14, S15, opv, opvs, eget, env0, setD, lenStr, lenSl, isNilP, isNilS, putAt, if_true, if_false, reduceCtorEq, Nat.reduceLeDiff, Nat.reduceEqDiff, Nat.reduceSub, Nat.reduceMul, Nat.reduceAdd]
  refine call_pure (spec_RecValid r hr _) ?_
  simp -implicitDefEqProofs only [S0, S1, S2, S3, S4, S5, S6, S7, S8, S9, S10, S11, S12, S13, S14, S15, opv, opvs, eget, env0, setD, lenStr, lenSl, isNilP, isNilS, putAt, if_true, if_false, reduceCtorEq, Nat.reduceLeDiff, Nat.reduceEqDiff, Nat.reduceSub, Nat.reduceMul, Nat.reduceAdd]
  refine cond_split (fun h => ?_) (fun h => ?_)
  · have hv : validR r = false := by simpa using h
    simp -implicitDefEqProofs only [S0, S1, S2, S3, S4, S5, S6, S7, S8, S9, S10, S11, S12, S13, S14, S15, opv, opvs, eget, env0, setD, lenStr, lenSl, isNilP, isNilS, putAt, if_true, if_false, reduceCtorEq, Nat.reduceLeDiff, Nat.reduceEqDiff, Nat.reduceSub, Nat.reduceMul, Nat.reduceAdd]
    refine fin_keep (by simp) ⟨_, [σ.length + 1], rfl, ?_, ?_⟩
    · have : bookR r = [] := by unfold bookR; rw [hv]; rfl
      rw [this]
      exact own_strs (l := []) (by simp [strRows])
    · exact Wi.cons (Wi.nil (a := σ.length + 2)) (by omega) (by omega) (by simp)
  have hv : validR r = true := by simpa using h
  obtain ⟨k0, k1⟩ := known_le hv
  have hbook : bookR r = textsOf (r.Disk.Slots.take r.Disk.Known.toNat) := by unfold bookR; rw [if_pos hv]
  simp -implicitDefEqProofs only [S0, S1, S2, S3, S4, S5, S6, S7, S8, S9, S10, S11, S12, S13, S14, S15, opv, opvs, eget, env0, setD, lenStr, lenSl, isNilP, isNilS, putAt, if_true, if_false, reduceCtorEq, Nat.reduceLeDiff, Nat.reduceEqDiff, Nat.reduceSub, Nat.reduceMul, Nat.reduceAdd]
  refine loop_g [3, 4, 1] [1] (fun x : Nat => [(3, .sl (σ.length + 1) x 0 x), (4, .t (.int .i64 (x : Nat)))]) (fun x => σ ++ [.box r.vs, .slc 1 (strRows (textsOf (r.Disk.Slots.take x)))]) (fun x => (x : Int) ≤ r.Disk.Known) (fun x => r.Disk.Known.toNat - x) 0 (by simp) (by simpa using k0) (by simp [strRows, textsOf]) rfl ?_
  rintro k hk
  simp -implicitDefEqProofs only [keep, Recorder.vs, S0, S1, S2, S3, S4, S5, S6, S7, S8, S9, S10, S11, S12, S13, S14, S15, opv, opvs, eget, env0, setD, lenStr, lenSl, isNilP, isNilS, putAt, if_true, if_false, reduceCtorEq, Nat.reduceLeDiff, Nat.reduceEqDiff, Nat.reduceSub, Nat.reduceMul, Nat.reduceAdd]
  refine cond_split (fun h1 => ?_) (fun h1 => ?_)
  · have hlt : (k : Int) < r.Disk.Known := by simpa using h1
    have hx : r.Disk.Slots[k]? = some (r.Disk.Slots[k]'(by omega)) := by simp [show k < r.Disk.Slots.length by omega]
    generalize r.Disk.Slots[k]'(by omega) = x at hx
    have hlen : (strRows (textsOf (r.Disk.Slots.take k))).length = k := by simp [strRows, textsOf]; omega
    have c1 : 0 < 1 := by omega
    have b1 : (k + 1) * 16 ≤ maxBy := by simp only [maxBy]; omega
    have b2 : k ≤ 9223372036854775806 := by omega
    have b3 : k + 1 ≤ 9223372036854775807 := by omega
    have hrow : ((([[V.t (T.str x.Text)]] : List (List V)).all fun r => r.all one) = true) := rfl
    simp -implicitDefEqProofs only [hx, nat_nn, c1, List.getElem?_map, Option.map_some, RecSlot.ts, S0, S1, S2, S3, S4, S5, S6, S7, S8, S9, S10, S11, S12, S13, S14, S15, opv, opvs, eget, env0, setD, lenStr, lenSl, isNilP, isNilS, putAt, if_true, if_false, reduceCtorEq, Nat.reduceLeDiff, Nat.reduceEqDiff, Nat.reduceSub, Nat.reduceMul, Nat.reduceAdd]
    refine lit_rows ?_
    simp -implicitDefEqProofs only [q_rows_r _ _ hrow, hlen, b1, b2, b3, i64_succ (show k < 4611686018427387904 by omega), S0, S1, S2, S3, S4, S5, S6, S7, S8, S9, S10, S11, S12, S13, S14, S15, opv, opvs, eget, env0, setD, lenStr, lenSl, isNilP, isNilS, putAt, if_true, if_false, reduceCtorEq, Nat.reduceLeDiff, Nat.reduceEqDiff, Nat.reduceSub, Nat.reduceMul, Nat.reduceAdd]
    exact lk_g (k + 1) (by omega) (by omega) (by simp) (by simp only [texts_step hx, Recorder.vs]) rfl
  · have hkk : k = r.Disk.Known.toNat := by
      have : ¬ (k : Int) < r.Disk.Known := by simpa using h1
      omega
    simp -implicitDefEqProofs only [S0, S1, S2, S3, S4, S5, S6, S7, S8, S9, S10, S11, S12, S13, S14, S15, opv, opvs, eget, env0, setD, lenStr, lenSl, isNilP, isNilS, putAt, if_true, if_false, reduceCtorEq, Nat.reduceLeDiff, Nat.reduceEqDiff, Nat.reduceSub, Nat.reduceMul, Nat.reduceAdd]
    refine fin_keep (by simp) ⟨_, [σ.length + 1], rfl, ?_, ?_⟩
    · rw [hbook, ← hkk]
      have hl : (textsOf (r.Disk.Slots.take k)).length = k := by simp [textsOf]; omega
      have := own_strs (σ := σ ++ [.box r.vs, .slc 1 (strRows (textsOf (r.Disk.Slots.take k)))]) (id := σ.length + 1) (l := textsOf (r.Disk.Slots.take k)) (by simp)
      rw [hl] at this
      exact this
    · exact Wi.cons (Wi.nil (a := σ.length + 2)) (by omega) (by omega) (by simp)

def bv (σ : Store) : Nat → V
  | 0 => .nils
  | k + 1 => .sl (σ.length + 1) (k + 1) 0 (k + 1)
def bs (σ : Store) (l : List RecSlot) (o : Go.Ab.Obj) (g : Store) : Nat → Store
  | 0 => σ
  | k + 1 => σ ++ o :: .slc 1 (strRows (textsOf (l.take (k + 1)))) :: g
theorem impl_book (r : Recorder) (hr : r.Ok) (hk0 : 0 ≤ r.Disk.Known) (hk1 : r.Disk.Known ≤ r.Disk.Slots.length) (σ : Store) (id : Nat) (hid : σ[id]? = some (.box r.vs)) :
    ACalls Try.prog 119 [.ptr id 0] σ (ToR (tStrs (textsOf (r.Disk.Slots.take r.Disk.Known.toNat))) σ) := by
  refine acalls_of Try.func119 (by decide +kernel) (code := Try.f119.body.getD .skip) (n := 29) (c := c___impl_Recorder__book) (rs := [(.tmp 2)]) rfl rfl k___impl_Recorder__book (by kernel_rfl) (by simp) (fun hσ => ?_)
  have y1 := hr.Disk.Slots.1
  have hid' := hid
  rw [Recorder.vs] at hid
  have hle : r.Disk.Known.toNat ≤ r.Disk.Slots.length := by omega
  have htk : (r.Disk.Slots.take r.Disk.Known.toNat).length = r.Disk.Known.toNat := by rw [List.length_take]; omega
  simp -implicitDefEqProofs only [c___impl_Recorder__book, hid, hk0, hle, List.length_map, List.drop_zero, map_take_l, htk, Nat.zero_le, S0, S1, S2, S3, S4, S5, S6, S7, S8, S9, S10, S11, S12, S13, S14, S15, opv, opvs, eget, env0, setD, lenStr, lenSl, isNilP, isNilS, putAt, if_true, if_false, reduceCtorEq, Nat.reduceLeDiff, Nat.reduceEqDiff, Nat.reduceSub, Nat.reduceMul, Nat.reduceAdd]
  refine loop_g [3, 18, 16, 17] [16, 17] (fun x : Nat × Go.Ab.Obj × Store => [(3, bv σ x.1), (18, .t (.int .i64 (x.1 : Nat)))]) (fun x => bs σ r.Disk.Slots x.2.1 x.2.2 x.1) (fun x => x.1 ≤ r.Disk.Known.toNat) (fun x => r.Disk.Known.toNat - x.1) (0, .slc 0 [], []) (Nat.le_refl _) (Nat.zero_le _) rfl rfl ?_
  rintro ⟨k, o, g⟩ hk
  simp only at hk
  have bl : σ.length ≤ (bs σ r.Disk.Slots o g k).length := by cases k <;> simp [bs]
  simp -implicitDefEqProofs only [keep, S0, S1, S2, S3, S4, S5, S6, S7, S8, S9, S10, S11, S12, S13, S14, S15, opv, opvs, eget, env0, setD, lenStr, lenSl, isNilP, isNilS, putAt, if_true, if_false, reduceCtorEq, Nat.reduceLeDiff, Nat.reduceEqDiff, Nat.reduceSub, Nat.reduceMul, Nat.reduceAdd]
  refine cond_split (fun h1 => ?_) (fun h1 => ?_)
  · have hlt : k < r.Disk.Known.toNat := by have := of_decide_eq_true h1; omega
    have hx : r.Disk.Slots[k]? = some (r.Disk.Slots[k]'(by omega)) := by simp [show k < r.Disk.Slots.length by omega]
    generalize r.Disk.Slots[k]'(by omega) = x at hx
    have hx2 : (r.Disk.Slots.take r.Disk.Known.toNat)[k]? = some x := by rw [List.getElem?_take, if_pos hlt]; exact hx
    have c1 : 0 < 1 := by omega
    have hrow : ((([[V.t (T.str x.Text)]] : List (List V)).all fun r => r.all one) = true) := rfl
    have more := i64_succ (show k < 4611686018427387904 by omega)
    rcases k with _ | k
    · have b1 : 1 * 16 ≤ maxBy := by simp only [maxBy]; omega
      have b1' : 16 ≤ maxBy := by simp only [maxBy]; omega
      have b3 : 1 ≤ 9223372036854775807 := by omega
      simp -implicitDefEqProofs only [bv, bs, hx2, nat_nn, c1, List.getElem?_map, Option.map_some, RecSlot.ts, more, S0, S1, S2, S3, S4, S5, S6, S7, S8, S9, S10, S11, S12, S13, S14, S15, opv, opvs, eget, env0, setD, lenStr, lenSl, isNilP, isNilS, putAt, if_true, if_false, reduceCtorEq, Nat.reduceLeDiff, Nat.reduceEqDiff, Nat.reduceSub, Nat.reduceMul, Nat.reduceAdd]
      refine lit_rows ?_
      simp -implicitDefEqProofs only [q_rows_r _ _ hrow, b1, b1', b3, more, S0, S1, S2, S3, S4, S5, S6, S7, S8, S9, S10, S11, S12, S13, S14, S15, opv, opvs, eget, env0, setD, lenStr, lenSl, isNilP, isNilS, putAt, if_true, if_false, reduceCtorEq, Nat.reduceLeDiff, Nat.reduceEqDiff, Nat.reduceSub, Nat.reduceMul, Nat.reduceAdd]
      exact lk_g (1, .box [.t (.int .i64 x.Ballot), .t (.str x.Text)], []) (by simp only; omega) (by simp only; omega) (by simp) (by simp only [bs, texts_step hx]; simp [strRows, textsOf]) rfl
    · have hlen : (strRows (textsOf (r.Disk.Slots.take (k + 1)))).length = k + 1 := by simp [strRows, textsOf]; omega
      have b1 : (k + 1 + 1) * 16 ≤ maxBy := by simp only [maxBy]; omega
      have b1' : (k + 2) * 16 ≤ maxBy := by simp only [maxBy]; omega
      have b2 : k ≤ 9223372036854775805 := by omega
      simp -implicitDefEqProofs only [bv, bs, hx2, nat_nn, c1, List.getElem?_map, Option.map_some, RecSlot.ts, more, S0, S1, S2, S3, S4, S5, S6, S7, S8, S9, S10, S11, S12, S13, S14, S15, opv, opvs, eget, env0, setD, lenStr, lenSl, isNilP, isNilS, putAt, if_true, if_false, reduceCtorEq, Nat.reduceLeDiff, Nat.reduceEqDiff, Nat.reduceSub, Nat.reduceMul, Nat.reduceAdd]
      refine lit_rows ?_
      simp -implicitDefEqProofs only [q_rows_r _ _ hrow, hlen, b1, b1', b2, more, S0, S1, S2, S3, S4, S5, S6, S7, S8, S9, S10, S11, S12, S13, S14, S15, opv, opvs, eget, env0, setD, lenStr, lenSl, isNilP, isNilS, putAt, if_true, if_false, reduceCtorEq, Nat.reduceLeDiff, Nat.reduceEqDiff, Nat.reduceSub, Nat.reduceMul, Nat.reduceAdd]
      exact lk_g (k + 2, o, g ++ [.box [.t (.int .i64 x.Ballot), .t (.str x.Text)]]) (by simp only; omega) (by simp only; omega) (by simp) (by simp only [bs, texts_step hx]) rfl
  · have hkk : k = r.Disk.Known.toNat := by
      have := of_decide_eq_false h1
      omega
    simp -implicitDefEqProofs only [S0, S1, S2, S3, S4, S5, S6, S7, S8, S9, S10, S11, S12, S13, S14, S15, opv, opvs, eget, env0, setD, lenStr, lenSl, isNilP, isNilS, putAt, if_true, if_false, reduceCtorEq, Nat.reduceLeDiff, Nat.reduceEqDiff, Nat.reduceSub, Nat.reduceMul, Nat.reduceAdd]
    rw [← hkk]
    rcases k with _ | k
    · refine fin_keep (by simp [bs]) ⟨[], [], by simp [bs], ?_, Wi.nil⟩
      simp [mkRes, bv, textsOf, tStrs, Own]
    · refine fin_keep (by simp [bs]) ⟨_, [σ.length + 1], rfl, ?_, ?_⟩
      · have hl : (textsOf (r.Disk.Slots.take (k + 1))).length = k + 1 := by simp [textsOf]; omega
        have := own_strs (σ := bs σ r.Disk.Slots o g (k + 1)) (id := σ.length + 1) (l := textsOf (r.Disk.Slots.take (k + 1))) (by simp [bs])
        rw [hl] at this
        exact this
      · exact Wi.cons (Wi.nil (a := σ.length + 2)) (by omega) (by omega) (by simp [bs])

theorem impl_RecBook (r : Recorder) (hr : r.Ok) (σ : Store) : ACalls Try.prog 53 [.agg r.vs] σ (ToR (tStrs (bookR r)) σ) := by
  refine acalls_of Try.func53 (by decide +kernel) (code := Try.f53.body.getD .skip) (n := 7) (c := c_impl_RecBook) (rs := [(.tmp 2)]) rfl rfl k_impl_RecBook (by kernel_rfl) (by simp) (fun hσ => ?_)
  simp -implicitDefEqProofs only [c_impl_RecBook, Recorder.vs, S0, S1, S2, S3, S4, S5, S6, S7, S8, S9, S10, S11, S12, S13, S14, S15, opv, opvs, eget, env0, setD, lenStr, lenSl, isNilP, isNilS, putAt, if_true, if_false, reduceCtorEq, Nat.reduceLeDiff, Nat.reduceEqDiff, Nat.reduceSub, Nat.reduceMul, Nat.reduceAdd]
  refine call_pure (impl_RecValid r hr _) ?_
  simp -implicitDefEqProofs only [S0, S1, S2, S3, S4, S5, S6, S7, S8, S9, S10, S11, S12, S13, S14, S15, opv, opvs, eget, env0, setD, lenStr, lenSl, isNilP, isNilS, putAt, if_true, if_false, reduceCtorEq, Nat.reduceLeDiff, Nat.reduceEqDiff, Nat.reduceSub, Nat.reduceMul, Nat.reduceAdd]
  refine cond_split (fun h => ?_) (fun h => ?_)
  · have hv : validR r = false := by simpa using h
    simp -implicitDefEqProofs only [S0, S1, S2, S3, S4, S5, S6, S7, S8, S9, S10, S11, S12, S13, S14, S15, opv, opvs, eget, env0, setD, lenStr, lenSl, isNilP, isNilS, putAt, if_true, if_false, reduceCtorEq, Nat.reduceLeDiff, Nat.reduceEqDiff, Nat.reduceSub, Nat.reduceMul, Nat.reduceAdd]
    refine fin_keep (by simp) ⟨_, [], rfl, ?_, Wi.nil⟩
    have : bookR r = [] := by unfold bookR; rw [hv]; rfl
    rw [this]
    simp [mkRes, tStrs, Own]
  have hv : validR r = true := by simpa using h
  obtain ⟨k0, k1⟩ := known_le hv
  have hbook : bookR r = textsOf (r.Disk.Slots.take r.Disk.Known.toNat) := by unfold bookR; rw [if_pos hv]
  rw [hbook]
  simp -implicitDefEqProofs only [S0, S1, S2, S3, S4, S5, S6, S7, S8, S9, S10, S11, S12, S13, S14, S15, opv, opvs, eget, env0, setD, lenStr, lenSl, isNilP, isNilS, putAt, if_true, if_false, reduceCtorEq, Nat.reduceLeDiff, Nat.reduceEqDiff, Nat.reduceSub, Nat.reduceMul, Nat.reduceAdd]
  refine call_by (by rw [List.append_nil]; exact impl_book r hr k0 k1 _ σ.length (by simp [Recorder.vs])) ?_
  rintro v σ' ⟨τ, is, rfl, ho, hw⟩
  simp -implicitDefEqProofs only [S0, S1, S2, S3, S4, S5, S6, S7, S8, S9, S10, S11, S12, S13, S14, S15, opv, opvs, eget, env0, setD, lenStr, lenSl, isNilP, isNilS, putAt, if_true, if_false, reduceCtorEq, Nat.reduceLeDiff, Nat.reduceEqDiff, Nat.reduceSub, Nat.reduceMul, Nat.reduceAdd]
  refine fin_keep (by simp) ⟨_, is, rfl, ?_, ?_⟩
  · simpa [mkRes] using ho
  · have := hw.mono (a' := σ.length) (b' := (σ ++ (.box r.vs :: τ)).length) (by simp) (by simp)
    exact this
end Go.Proofs.Ytleilaipdhmgeaa.W
