/- The marks' text. Conditions: none. -/
/- Marks and looks at them again, for these structs (printed by marks.py). Conditions: none. -/
/- Marks and looks at them again, for these structs (printed by marks.py). Conditions: none. -/
/- Marks and looks at them again, for these structs (printed by marks.py). Conditions: none. -/
import Derived.Test.YtleilaipdhmgeaaAb4
import Derived.IntWalk
import Derived.Test.YtleilaipdhmgeaaProg
import Derived.KernelRfl
import Derived.Test.YtleilaipdhmgeaaTypesRec
set_option linter.unusedSimpArgs false
set_option linter.unusedVariables false
set_option linter.defProp false

section
open Go Go.Ab
namespace Go.Proofs.Ytleilaipdhmgeaa.W
def c_laws_markText : C := (.seq (.ops [⟨(some 2), none, (.mv (.c (.t (.str []))))⟩]) (.seq (.seq (.ops [⟨(some 4), none, (.mv (.t 0))⟩, ⟨(some 5), none, (.bin .leq (.t 4) (.c (.t (.int .i64 0))))⟩]) (.cond (.t 5) (.seq (.ops [⟨(some 2), none, (.mv (.c (.t (.str [109, 48]))))⟩]) .ret) .skip)) (.seq (.ops [⟨(some 3), none, (.mv (.c (.t (.str []))))⟩]) (.seq (.block 0 (.loop (.seq (.seq (.ops [⟨(some 6), none, (.mv (.t 0))⟩, ⟨(some 7), none, (.bin .gtr (.t 6) (.c (.t (.int .i64 0))))⟩]) (.cond (.t 7) .skip (.exit 0))) (.block 1 (.seq (.ops [⟨(some 8), none, (.mv (.t 0))⟩, ⟨(some 9), none, (.bin .rem (.t 8) (.c (.t (.int .i64 10))))⟩, ⟨(some 10), none, (.bin .add (.c (.t (.int .i64 48))) (.t 9))⟩, ⟨(some 11), none, (.convInt .u8 (.t 10))⟩, ⟨(some 12), none, (.lit none 1 1 [(.t (.int .u8 0))] [⟨0, (.t 11)⟩])⟩, ⟨(some 13), none, (.bytesStr (.t 12))⟩, ⟨(some 14), none, (.mv (.t 3))⟩, ⟨(some 15), none, (.bin .add (.t 13) (.t 14))⟩, ⟨(some 3), none, (.mv (.t 15))⟩]) (.ops [⟨(some 16), none, (.mv (.t 0))⟩, ⟨(some 17), none, (.bin .quo (.t 16) (.c (.t (.int .i64 10))))⟩, ⟨(some 0), none, (.mv (.t 17))⟩])))))) (.seq (.ops [⟨(some 18), none, (.mv (.t 3))⟩, ⟨(some 19), none, (.bin .add (.c (.t (.str [109]))) (.t 18))⟩, ⟨(some 2), none, (.mv (.t 19))⟩]) .ret)))))
theorem k_laws_markText : comp Try.prog 20 (Try.f85.body.getD .skip) = some c_laws_markText := by kernel_rfl

def digit (k : Nat) : UInt8 := UInt8.ofNat (IntKind.u8.wrap (IntKind.i64.wrap (48 + (k : Int).tmod 10))).toNat
def dec (k : Nat) (o : List UInt8) : List UInt8 := if h : k = 0 then o else dec (k / 10) (digit k :: o)
termination_by k
decreasing_by omega
def markTxt (k : Nat) : List UInt8 := 109 :: dec k []

theorem markText (k : Nat) (h1 : 1 ≤ k) (h2 : k < 2 ^ 62) (σ : Store) : ACalls Try.prog 85 [.t (.int .i64 k)] σ fun r σ' => r = .t (.str (markTxt k)) ∧ σ' = σ := by
  refine acalls_of Try.func85 (by decide +kernel) (code := Try.f85.body.getD .skip) (n := 20) (c := c_laws_markText) (rs := [(.tmp 2)]) rfl rfl k_laws_markText (by kernel_rfl) (by simp) (fun hσ => ?_)
  have hpos : decide ((k : Int) ≤ 0) = false := by simp; omega
  simp -implicitDefEqProofs only [c_laws_markText, hpos, S0, S1, S2, S3, S4, S5, S6, S7, S8, S9, S10, S11, S12, S13, S14, S15, opv, opvs, eget, env0, setD, lenStr, lenSl, isNilP, isNilS, putAt, if_true, if_false, reduceCtorEq, Nat.reduceLeDiff, Nat.reduceEqDiff, Nat.reduceSub, Nat.reduceMul, Nat.reduceAdd]
  refine loop_by [0, 3] σ.length (fun n s' => ∃ j o, n = j ∧ j + o.length ≤ k ∧ dec j o = dec k [] ∧ s' = ⟨.go, [(0, .t (.int .i64 (j : Nat))), (3, .t (.str o))], σ⟩) k (cut_all (Nat.le_refl _)) ⟨k, [], rfl, by simp, rfl, ?_⟩ ?_
  · simp [St.cut, keep, eget]
  · rintro j s' ⟨_, o, rfl, hj, hd, rfl⟩
    simp -implicitDefEqProofs only [S0, S1, S2, S3, S4, S5, S6, S7, S8, S9, S10, S11, S12, S13, S14, S15, opv, opvs, eget, env0, setD, lenStr, lenSl, isNilP, isNilS, putAt, if_true, if_false, reduceCtorEq, Nat.reduceLeDiff, Nat.reduceEqDiff, Nat.reduceSub, Nat.reduceMul, Nat.reduceAdd]
    refine cond_split (fun h => ?_) (fun h => ?_)
    · have hj0 : 0 < j := by simpa using h
      have hdec : dec j o = dec (j / 10) (digit j :: o) := by rw [dec]; simp [show ¬ j = 0 by omega]
      have hq : IntKind.i64.wrap ((j : Int).tdiv 10) = ((j / 10 : Nat) : Int) := by
        rw [show (j : Int).tdiv 10 = ((j / 10 : Nat) : Int) by rw [Int.tdiv_eq_ediv_of_nonneg (by omega)]; omega]
        exact IntWalk.i64_in _ (by omega)
      have hten : ((10 : Int) ≠ 0) = True := by simp
      have hlen : (((1 + o.length : Nat)) : Int) ≤ 9223372036854775807 := by omega
      simp -implicitDefEqProofs only [h, hten, S0, S1, S2, S3, S4, S5, S6, S7, S8, S9, S10, S11, S12, S13, S14, S15, opv, opvs, eget, env0, setD, lenStr, lenSl, isNilP, isNilS, putAt, if_true, if_false, reduceCtorEq, Nat.reduceLeDiff, Nat.reduceEqDiff, Nat.reduceSub, Nat.reduceMul, Nat.reduceAdd]
      refine ⟨by omega, lit_rows ?_⟩
      simp -implicitDefEqProofs only [h, hten, q_rows_r, Option.map_some, hlen, hq, S0, S1, S2, S3, S4, S5, S6, S7, S8, S9, S10, S11, S12, S13, S14, S15, opv, opvs, eget, env0, setD, lenStr, lenSl, isNilP, isNilS, putAt, if_true, if_false, reduceCtorEq, Nat.reduceLeDiff, Nat.reduceEqDiff, Nat.reduceSub, Nat.reduceMul, Nat.reduceAdd]
      refine ⟨cut_all (Nat.le_refl _), j / 10, by omega, j / 10, digit j :: o, rfl, by simp; omega, by rw [← hd, hdec], ?_⟩
      simp [St.cut, keep, eget, digit]
    · simp -implicitDefEqProofs only [h, S0, S1, S2, S3, S4, S5, S6, S7, S8, S9, S10, S11, S12, S13, S14, S15, opv, opvs, eget, env0, setD, lenStr, lenSl, isNilP, isNilS, putAt, if_true, if_false, reduceCtorEq, Nat.reduceLeDiff, Nat.reduceEqDiff, Nat.reduceSub, Nat.reduceMul, Nat.reduceAdd]
      have hj0 : j = 0 := by
        have : ¬ (0 : Int) < j := by simpa using h
        omega
      subst hj0
      have ho : o = dec k [] := by rw [← hd, dec]; simp
      have hlen : (((1 + o.length : Nat)) : Int) ≤ 9223372036854775807 := by omega
      simp -implicitDefEqProofs only [hlen, S0, S1, S2, S3, S4, S5, S6, S7, S8, S9, S10, S11, S12, S13, S14, S15, opv, opvs, eget, env0, setD, lenStr, lenSl, isNilP, isNilS, putAt, if_true, if_false, reduceCtorEq, Nat.reduceLeDiff, Nat.reduceEqDiff, Nat.reduceSub, Nat.reduceMul, Nat.reduceAdd]
      exact ret_same0 rfl ⟨by simp [mkRes, markTxt, ho], rfl⟩
theorem textOk : TextOk Try.prog markTxt 85 := fun k σ h1 h2 => markText k h1 (by omega) σ
end Go.Proofs.Ytleilaipdhmgeaa.W

end


section
open Go Go.Ab
set_option maxHeartbeats 4000000
set_option maxRecDepth 20000
namespace Go.Proofs.Ytleilaipdhmgeaa.W
def c_markStringS : C := (.seq (.ops [⟨(some 12), none, (.mv (.t 0))⟩, ⟨(some 13), none, (.mv (.t 5))⟩, ⟨(some 14), none, (.mv (.t 1))⟩, ⟨(some 15), none, (.call (.c (.fn (.func 85) [])) [(.t 14)])⟩, ⟨(some 16), none, (.indexAddr 1 (.t 12) (.t 13))⟩, ⟨none, none, (.store 1 (.t 16) (.t 15))⟩]) (.ops [⟨(some 17), none, (.mv (.t 1))⟩, ⟨(some 18), none, (.bin .add (.t 17) (.c (.t (.int .i64 1))))⟩, ⟨(some 1), none, (.mv (.t 18))⟩]))
theorem row_markStringS : RowMark Try.prog markTxt 1 c_markStringS [.str] := by
  intro b Q e σ id len i rs row r ji k g0 g5 g1 hl hi hs hr hT hz hO hnd hk hlt hQ
  simp only [isL_cons, isL_nil, is_str] at hT
  obtain ⟨_, _, rfl, ⟨n0, rfl, b0⟩, rfl⟩ := hT
  have hm : T.mkL markTxt k [.str n0] = ([.str (markTxt k)], (k + 1)) := by simp only [mkL_cons, mkL_nil, mkc_int, mkc_bool, mkc_str, Nat.add_assoc, Nat.reduceAdd]
  rw [hm] at hlt hQ
  simp only at hlt hQ
  clear hm
  obtain ⟨_, rfl, hO0⟩ := oc_str hO
  clear hO
  obtain ⟨rfl, rfl⟩ := oc_nil hO0
  have w0 : IntKind.i64.wrap (((k : Nat) : Int) + 1) = (((k + 1) : Nat) : Int) := i64_succ (k := k) (by omega)
  have hidl := (List.getElem?_eq_some_iff.1 hs).1
  have s0 : ∀ o, (σ.set id o)[id]? = some o := fun o => by simp [hidl]
  have rr : ∀ x, (rs.set i x)[i]? = some x := fun x => by simp [hl, hi]
  have hi' : ((i : Nat) : Int) < ((len : Nat) : Int) := by omega
  have three : ((3 : Int) ≠ 0) = True := by simp
  simp -implicitDefEqProofs only [c_markStringS, g0, g5, g1, hs, hr, hl, hi', nat_nn, s0, rr, three, Nat.zero_le, w0, S0, S1, S2, S3, S4, S5, S6, S7, S8, S9, S10, S11, S12, S13, S14, S15, opv, opvs, eget, env0, setD, lenStr, lenSl, isNilP, isNilS, putAt, if_true, if_false, reduceCtorEq, Nat.reduceLeDiff, Nat.reduceEqDiff, Nat.reduceSub, Nat.reduceMul, Nat.reduceAdd]
  refine call_pure (textOk k _ (by omega) (by omega)) ?_
  simp -implicitDefEqProofs only [g0, g5, g1, hs, hr, hl, hi', nat_nn, s0, rr, three, Nat.zero_le, w0, S0, S1, S2, S3, S4, S5, S6, S7, S8, S9, S10, S11, S12, S13, S14, S15, opv, opvs, eget, env0, setD, lenStr, lenSl, isNilP, isNilS, putAt, if_true, if_false, reduceCtorEq, Nat.reduceLeDiff, Nat.reduceEqDiff, Nat.reduceSub, Nat.reduceMul, Nat.reduceAdd]
  refine hQ _ _ [.t (.str (markTxt k))] ?_ ?_ ?_ ?_ ?_ ?_ ?_
  · simp -implicitDefEqProofs only [g0, g5, g1, S0, S1, S2, S3, S4, S5, S6, S7, S8, S9, S10, S11, S12, S13, S14, S15, opv, opvs, eget, env0, setD, lenStr, lenSl, isNilP, isNilS, putAt, if_true, if_false, reduceCtorEq, Nat.reduceLeDiff, Nat.reduceEqDiff, Nat.reduceSub, Nat.reduceMul, Nat.reduceAdd]
  · simp -implicitDefEqProofs only [g0, g5, g1, S0, S1, S2, S3, S4, S5, S6, S7, S8, S9, S10, S11, S12, S13, S14, S15, opv, opvs, eget, env0, setD, lenStr, lenSl, isNilP, isNilS, putAt, if_true, if_false, reduceCtorEq, Nat.reduceLeDiff, Nat.reduceEqDiff, Nat.reduceSub, Nat.reduceMul, Nat.reduceAdd]
  · simp -implicitDefEqProofs only [g0, g5, g1, S0, S1, S2, S3, S4, S5, S6, S7, S8, S9, S10, S11, S12, S13, S14, S15, opv, opvs, eget, env0, setD, lenStr, lenSl, isNilP, isNilS, putAt, if_true, if_false, reduceCtorEq, Nat.reduceLeDiff, Nat.reduceEqDiff, Nat.reduceSub, Nat.reduceMul, Nat.reduceAdd]
  · exact s0 _
  · exact (OwnL.str OwnL.nil0)
  · simp only [List.length_set]
    omega
  · intro j hj hn
    simp only [List.mem_cons, List.mem_append, List.not_mem_nil, not_or, not_false_eq_true, and_true] at hn
    rw [List.getElem?_set_ne (fun e => hn e.symm)]
theorem i_markStringS : Is Try.prog 55 20 [(.tmp 4)] (tMarkS 19 c_markStringS) := ⟨_, _, Try.func55, by decide +kernel, rfl, rfl, by kernel_rfl, rfl⟩
theorem markStringS : MarkOk Try.prog markTxt 55 (.sl 1 [.str]) := markS_ok rfl (by decide) (by decide) i_markStringS row_markStringS
def c_heldStringS : C := (.seq (.seq (.drawn [(.mk 0 false ⟨(some 12), none, (.mv (.t 0))⟩), (.mk 1 false ⟨(some 13), none, (.mv (.t 5))⟩), (.mk 2 false ⟨(some 14), none, (.indexAddr 1 (.t 12) (.t 13))⟩), (.mk 3 false ⟨(some 15), none, (.load none (.t 14))⟩), (.mk 4 false ⟨(some 16), none, (.mv (.t 1))⟩), (.mk 5 true ⟨(some 17), none, (.call (.c (.fn (.func 85) [])) [(.t 16)])⟩), (.mk 6 false ⟨(some 18), none, (.bin .neq (.t 15) (.t 17))⟩)]) (.cond (.t 18) (.seq (.ops [⟨(some 4), none, (.mv (.c (.t (.int .i64 (-1)))))⟩]) .ret) .skip)) (.ops [⟨(some 19), none, (.mv (.t 1))⟩, ⟨(some 20), none, (.bin .add (.t 19) (.c (.t (.int .i64 1))))⟩, ⟨(some 1), none, (.mv (.t 20))⟩]))
theorem row_heldStringS : RowHeld Try.prog markTxt 1 c_heldStringS [.str] := by
  intro b Q e σ i rows row k g0 g5 g1 hr hT hz hk hlt hQ
  simp only [isL_cons, isL_nil, is_str] at hT
  obtain ⟨_, _, rfl, ⟨n0, rfl, b0⟩, rfl⟩ := hT
  have hm : T.mkL markTxt k [.str n0] = ([.str (markTxt k)], (k + 1)) := by simp only [mkL_cons, mkL_nil, mkc_int, mkc_bool, mkc_str, Nat.add_assoc, Nat.reduceAdd]
  rw [hm] at hlt hQ hr
  simp only at hlt hQ hr
  clear hm
  have w0 : IntKind.i64.wrap (((k : Nat) : Int) + 1) = (((k + 1) : Nat) : Int) := i64_succ (k := k) (by omega)
  have three : ((3 : Int) ≠ 0) = True := by simp
  simp -implicitDefEqProofs only [c_heldStringS, g0, g5, g1, hr, nat_nn, three, nat_neg, ne_self, beq_self_eq_true, Nat.zero_le, w0, S0, S1, S2, S3, S4, S5, S6, S7, S8, S9, S10, S11, S12, S13, S14, S15, opv, opvs, eget, env0, setD, lenStr, lenSl, isNilP, isNilS, putAt, if_true, if_false, reduceCtorEq, Nat.reduceLeDiff, Nat.reduceEqDiff, Nat.reduceSub, Nat.reduceMul, Nat.reduceAdd]
  refine call_pure (textOk k _ (by omega) (by omega)) ?_
  simp -implicitDefEqProofs only [g0, g5, g1, hr, nat_nn, three, nat_neg, ne_self, beq_self_eq_true, Nat.zero_le, w0, S0, S1, S2, S3, S4, S5, S6, S7, S8, S9, S10, S11, S12, S13, S14, S15, opv, opvs, eget, env0, setD, lenStr, lenSl, isNilP, isNilS, putAt, if_true, if_false, reduceCtorEq, Nat.reduceLeDiff, Nat.reduceEqDiff, Nat.reduceSub, Nat.reduceMul, Nat.reduceAdd]
  refine hQ _ ?_ ?_ ?_ <;> simp -implicitDefEqProofs only [g0, g5, g1, S0, S1, S2, S3, S4, S5, S6, S7, S8, S9, S10, S11, S12, S13, S14, S15, opv, opvs, eget, env0, setD, lenStr, lenSl, isNilP, isNilS, putAt, if_true, if_false, reduceCtorEq, Nat.reduceLeDiff, Nat.reduceEqDiff, Nat.reduceSub, Nat.reduceMul, Nat.reduceAdd]
theorem i_heldStringS : Is Try.prog 56 22 [(.tmp 4)] (tMarkS 21 c_heldStringS) := ⟨_, _, Try.func56, by decide +kernel, rfl, rfl, by kernel_rfl, rfl⟩
theorem heldStringS : HeldOk Try.prog markTxt 56 (.sl 1 [.str]) := heldS_ok rfl (by decide) (by decide) i_heldStringS row_heldStringS
def c_markIntS : C := (.seq (.ops [⟨(some 12), none, (.mv (.t 0))⟩, ⟨(some 13), none, (.mv (.t 5))⟩, ⟨(some 14), none, (.mv (.t 1))⟩, ⟨(some 15), none, (.indexAddr 1 (.t 12) (.t 13))⟩, ⟨none, none, (.store 1 (.t 15) (.t 14))⟩]) (.ops [⟨(some 16), none, (.mv (.t 1))⟩, ⟨(some 17), none, (.bin .add (.t 16) (.c (.t (.int .i64 1))))⟩, ⟨(some 1), none, (.mv (.t 17))⟩]))
theorem row_markIntS : RowMark Try.prog markTxt 1 c_markIntS [.int .i64] := by
  intro b Q e σ id len i rs row r ji k g0 g5 g1 hl hi hs hr hT hz hO hnd hk hlt hQ
  simp only [isL_cons, isL_nil, is_int] at hT
  obtain ⟨_, _, rfl, ⟨n0, rfl, b0⟩, rfl⟩ := hT
  have hm : T.mkL markTxt k [.int .i64 n0] = ([.int .i64 ((k : Nat) : Int)], (k + 1)) := by simp only [mkL_cons, mkL_nil, mkc_int, mkc_bool, mkc_str, Nat.add_assoc, Nat.reduceAdd]
  rw [hm] at hlt hQ
  simp only at hlt hQ
  clear hm
  obtain ⟨_, rfl, hO0⟩ := oc_int hO
  clear hO
  obtain ⟨rfl, rfl⟩ := oc_nil hO0
  have w0 : IntKind.i64.wrap (((k : Nat) : Int) + 1) = (((k + 1) : Nat) : Int) := i64_succ (k := k) (by omega)
  have hidl := (List.getElem?_eq_some_iff.1 hs).1
  have s0 : ∀ o, (σ.set id o)[id]? = some o := fun o => by simp [hidl]
  have rr : ∀ x, (rs.set i x)[i]? = some x := fun x => by simp [hl, hi]
  have hi' : ((i : Nat) : Int) < ((len : Nat) : Int) := by omega
  have three : ((3 : Int) ≠ 0) = True := by simp
  simp -implicitDefEqProofs only [c_markIntS, g0, g5, g1, hs, hr, hl, hi', nat_nn, s0, rr, three, Nat.zero_le, w0, S0, S1, S2, S3, S4, S5, S6, S7, S8, S9, S10, S11, S12, S13, S14, S15, opv, opvs, eget, env0, setD, lenStr, lenSl, isNilP, isNilS, putAt, if_true, if_false, reduceCtorEq, Nat.reduceLeDiff, Nat.reduceEqDiff, Nat.reduceSub, Nat.reduceMul, Nat.reduceAdd]
  refine hQ _ _ [.t (.int .i64 ((k : Nat) : Int))] ?_ ?_ ?_ ?_ ?_ ?_ ?_
  · simp -implicitDefEqProofs only [g0, g5, g1, S0, S1, S2, S3, S4, S5, S6, S7, S8, S9, S10, S11, S12, S13, S14, S15, opv, opvs, eget, env0, setD, lenStr, lenSl, isNilP, isNilS, putAt, if_true, if_false, reduceCtorEq, Nat.reduceLeDiff, Nat.reduceEqDiff, Nat.reduceSub, Nat.reduceMul, Nat.reduceAdd]
  · simp -implicitDefEqProofs only [g0, g5, g1, S0, S1, S2, S3, S4, S5, S6, S7, S8, S9, S10, S11, S12, S13, S14, S15, opv, opvs, eget, env0, setD, lenStr, lenSl, isNilP, isNilS, putAt, if_true, if_false, reduceCtorEq, Nat.reduceLeDiff, Nat.reduceEqDiff, Nat.reduceSub, Nat.reduceMul, Nat.reduceAdd]
  · simp -implicitDefEqProofs only [g0, g5, g1, S0, S1, S2, S3, S4, S5, S6, S7, S8, S9, S10, S11, S12, S13, S14, S15, opv, opvs, eget, env0, setD, lenStr, lenSl, isNilP, isNilS, putAt, if_true, if_false, reduceCtorEq, Nat.reduceLeDiff, Nat.reduceEqDiff, Nat.reduceSub, Nat.reduceMul, Nat.reduceAdd]
  · exact s0 _
  · exact (OwnL.int OwnL.nil0)
  · simp only [List.length_set]
    omega
  · intro j hj hn
    simp only [List.mem_cons, List.mem_append, List.not_mem_nil, not_or, not_false_eq_true, and_true] at hn
    rw [List.getElem?_set_ne (fun e => hn e.symm)]
theorem i_markIntS : Is Try.prog 93 19 [(.tmp 4)] (tMarkS 18 c_markIntS) := ⟨_, _, Try.func93, by decide +kernel, rfl, rfl, by kernel_rfl, rfl⟩
theorem markIntS : MarkOk Try.prog markTxt 93 (.sl 1 [.int .i64]) := markS_ok rfl (by decide) (by decide) i_markIntS row_markIntS
def c_heldIntS : C := (.seq (.seq (.ops [⟨(some 12), none, (.mv (.t 0))⟩, ⟨(some 13), none, (.mv (.t 5))⟩, ⟨(some 14), none, (.indexAddr 1 (.t 12) (.t 13))⟩, ⟨(some 15), none, (.load none (.t 14))⟩, ⟨(some 16), none, (.mv (.t 1))⟩, ⟨(some 17), none, (.bin .neq (.t 15) (.t 16))⟩]) (.cond (.t 17) (.seq (.ops [⟨(some 4), none, (.mv (.c (.t (.int .i64 (-1)))))⟩]) .ret) .skip)) (.ops [⟨(some 18), none, (.mv (.t 1))⟩, ⟨(some 19), none, (.bin .add (.t 18) (.c (.t (.int .i64 1))))⟩, ⟨(some 1), none, (.mv (.t 19))⟩]))
theorem row_heldIntS : RowHeld Try.prog markTxt 1 c_heldIntS [.int .i64] := by
  intro b Q e σ i rows row k g0 g5 g1 hr hT hz hk hlt hQ
  simp only [isL_cons, isL_nil, is_int] at hT
  obtain ⟨_, _, rfl, ⟨n0, rfl, b0⟩, rfl⟩ := hT
  have hm : T.mkL markTxt k [.int .i64 n0] = ([.int .i64 ((k : Nat) : Int)], (k + 1)) := by simp only [mkL_cons, mkL_nil, mkc_int, mkc_bool, mkc_str, Nat.add_assoc, Nat.reduceAdd]
  rw [hm] at hlt hQ hr
  simp only at hlt hQ hr
  clear hm
  have w0 : IntKind.i64.wrap (((k : Nat) : Int) + 1) = (((k + 1) : Nat) : Int) := i64_succ (k := k) (by omega)
  have three : ((3 : Int) ≠ 0) = True := by simp
  simp -implicitDefEqProofs only [c_heldIntS, g0, g5, g1, hr, nat_nn, three, nat_neg, ne_self, beq_self_eq_true, Nat.zero_le, w0, S0, S1, S2, S3, S4, S5, S6, S7, S8, S9, S10, S11, S12, S13, S14, S15, opv, opvs, eget, env0, setD, lenStr, lenSl, isNilP, isNilS, putAt, if_true, if_false, reduceCtorEq, Nat.reduceLeDiff, Nat.reduceEqDiff, Nat.reduceSub, Nat.reduceMul, Nat.reduceAdd]
  refine hQ _ ?_ ?_ ?_ <;> simp -implicitDefEqProofs only [g0, g5, g1, S0, S1, S2, S3, S4, S5, S6, S7, S8, S9, S10, S11, S12, S13, S14, S15, opv, opvs, eget, env0, setD, lenStr, lenSl, isNilP, isNilS, putAt, if_true, if_false, reduceCtorEq, Nat.reduceLeDiff, Nat.reduceEqDiff, Nat.reduceSub, Nat.reduceMul, Nat.reduceAdd]
theorem i_heldIntS : Is Try.prog 97 21 [(.tmp 4)] (tMarkS 20 c_heldIntS) := ⟨_, _, Try.func97, by decide +kernel, rfl, rfl, by kernel_rfl, rfl⟩
theorem heldIntS : HeldOk Try.prog markTxt 97 (.sl 1 [.int .i64]) := heldS_ok rfl (by decide) (by decide) i_heldIntS row_heldIntS
def c_markRecSlotS : C := (.seq (.ops [⟨(some 12), none, (.mv (.t 0))⟩, ⟨(some 13), none, (.mv (.t 5))⟩, ⟨(some 14), none, (.mv (.t 1))⟩, ⟨(some 15), none, (.indexAddr 2 (.t 12) (.t 13))⟩, ⟨(some 16), none, (.fieldAddr 0 (.t 15))⟩, ⟨none, none, (.store 1 (.t 16) (.t 14))⟩]) (.seq (.ops [⟨(some 17), none, (.mv (.t 1))⟩, ⟨(some 18), none, (.bin .add (.t 17) (.c (.t (.int .i64 1))))⟩, ⟨(some 1), none, (.mv (.t 18))⟩]) (.seq (.ops [⟨(some 19), none, (.mv (.t 0))⟩, ⟨(some 20), none, (.mv (.t 5))⟩, ⟨(some 21), none, (.mv (.t 1))⟩, ⟨(some 22), none, (.call (.c (.fn (.func 85) [])) [(.t 21)])⟩, ⟨(some 23), none, (.indexAddr 2 (.t 19) (.t 20))⟩, ⟨(some 24), none, (.fieldAddr 1 (.t 23))⟩, ⟨none, none, (.store 1 (.t 24) (.t 22))⟩]) (.ops [⟨(some 25), none, (.mv (.t 1))⟩, ⟨(some 26), none, (.bin .add (.t 25) (.c (.t (.int .i64 1))))⟩, ⟨(some 1), none, (.mv (.t 26))⟩]))))
theorem row_markRecSlotS : RowMark Try.prog markTxt 2 c_markRecSlotS shRecSlot := by
  intro b Q e σ id len i rs row r ji k g0 g5 g1 hl hi hs hr hT hz hO hnd hk hlt hQ
  obtain ⟨n0, n1, rfl, b0, b1⟩ := isRecSlot hT
  rw [sizeRecSlot] at hz
  have hm : T.mkL markTxt k [.int .i64 n0, .str n1] = ([.int .i64 ((k : Nat) : Int), .str (markTxt (k + 1))], (k + 2)) := by simp only [mkL_cons, mkL_nil, mkc_int, mkc_bool, mkc_str, Nat.add_assoc, Nat.reduceAdd]
  rw [hm] at hlt hQ
  simp only at hlt hQ
  clear hm
  obtain ⟨_, rfl, hO0⟩ := oc_int hO
  clear hO
  obtain ⟨_, rfl, hO1⟩ := oc_str hO0
  clear hO0
  obtain ⟨rfl, rfl⟩ := oc_nil hO1
  have w0 : IntKind.i64.wrap (((k : Nat) : Int) + 1) = (((k + 1) : Nat) : Int) := i64_succ (k := k) (by omega)
  have w1 : IntKind.i64.wrap ((((k + 1) : Nat) : Int) + 1) = (((k + 2) : Nat) : Int) := i64_succ (k := (k + 1)) (by omega)
  have hidl := (List.getElem?_eq_some_iff.1 hs).1
  have s0 : ∀ o, (σ.set id o)[id]? = some o := fun o => by simp [hidl]
  have rr : ∀ x, (rs.set i x)[i]? = some x := fun x => by simp [hl, hi]
  have hi' : ((i : Nat) : Int) < ((len : Nat) : Int) := by omega
  have three : ((3 : Int) ≠ 0) = True := by simp
  simp -implicitDefEqProofs only [c_markRecSlotS, g0, g5, g1, hs, hr, hl, hi', nat_nn, s0, rr, three, Nat.zero_le, w0, w1, S0, S1, S2, S3, S4, S5, S6, S7, S8, S9, S10, S11, S12, S13, S14, S15, opv, opvs, eget, env0, setD, lenStr, lenSl, isNilP, isNilS, putAt, if_true, if_false, reduceCtorEq, Nat.reduceLeDiff, Nat.reduceEqDiff, Nat.reduceSub, Nat.reduceMul, Nat.reduceAdd]
  refine call_pure (textOk (k + 1) _ (by omega) (by omega)) ?_
  simp -implicitDefEqProofs only [g0, g5, g1, hs, hr, hl, hi', nat_nn, s0, rr, three, Nat.zero_le, w0, w1, S0, S1, S2, S3, S4, S5, S6, S7, S8, S9, S10, S11, S12, S13, S14, S15, opv, opvs, eget, env0, setD, lenStr, lenSl, isNilP, isNilS, putAt, if_true, if_false, reduceCtorEq, Nat.reduceLeDiff, Nat.reduceEqDiff, Nat.reduceSub, Nat.reduceMul, Nat.reduceAdd]
  refine hQ _ _ [.t (.int .i64 ((k : Nat) : Int)), .t (.str (markTxt (k + 1)))] ?_ ?_ ?_ ?_ ?_ ?_ ?_
  · simp -implicitDefEqProofs only [g0, g5, g1, S0, S1, S2, S3, S4, S5, S6, S7, S8, S9, S10, S11, S12, S13, S14, S15, opv, opvs, eget, env0, setD, lenStr, lenSl, isNilP, isNilS, putAt, if_true, if_false, reduceCtorEq, Nat.reduceLeDiff, Nat.reduceEqDiff, Nat.reduceSub, Nat.reduceMul, Nat.reduceAdd]
  · simp -implicitDefEqProofs only [g0, g5, g1, S0, S1, S2, S3, S4, S5, S6, S7, S8, S9, S10, S11, S12, S13, S14, S15, opv, opvs, eget, env0, setD, lenStr, lenSl, isNilP, isNilS, putAt, if_true, if_false, reduceCtorEq, Nat.reduceLeDiff, Nat.reduceEqDiff, Nat.reduceSub, Nat.reduceMul, Nat.reduceAdd]
  · simp -implicitDefEqProofs only [g0, g5, g1, S0, S1, S2, S3, S4, S5, S6, S7, S8, S9, S10, S11, S12, S13, S14, S15, opv, opvs, eget, env0, setD, lenStr, lenSl, isNilP, isNilS, putAt, if_true, if_false, reduceCtorEq, Nat.reduceLeDiff, Nat.reduceEqDiff, Nat.reduceSub, Nat.reduceMul, Nat.reduceAdd]
  · exact s0 _
  · exact (OwnL.int (OwnL.str OwnL.nil0))
  · simp only [List.length_set]
    omega
  · intro j hj hn
    simp only [List.mem_cons, List.mem_append, List.not_mem_nil, not_or, not_false_eq_true, and_true] at hn
    rw [List.getElem?_set_ne (fun e => hn e.symm)]
theorem i_markRecSlotS : Is Try.prog 26 28 [(.tmp 4)] (tMarkS 27 c_markRecSlotS) := ⟨_, _, Try.func26, by decide +kernel, rfl, rfl, by kernel_rfl, rfl⟩
theorem markRecSlotS : MarkOk Try.prog markTxt 26 (.sl 2 shRecSlot) := markS_ok rfl (by decide) (by decide) i_markRecSlotS row_markRecSlotS
def c_heldRecSlotS : C := (.seq (.seq (.ops [⟨(some 12), none, (.mv (.t 0))⟩, ⟨(some 13), none, (.mv (.t 5))⟩, ⟨(some 14), none, (.indexAddr 2 (.t 12) (.t 13))⟩, ⟨(some 15), none, (.fieldAddr 0 (.t 14))⟩, ⟨(some 16), none, (.load none (.t 15))⟩, ⟨(some 17), none, (.mv (.t 1))⟩, ⟨(some 18), none, (.bin .neq (.t 16) (.t 17))⟩]) (.cond (.t 18) (.seq (.ops [⟨(some 4), none, (.mv (.c (.t (.int .i64 (-1)))))⟩]) .ret) .skip)) (.seq (.ops [⟨(some 19), none, (.mv (.t 1))⟩, ⟨(some 20), none, (.bin .add (.t 19) (.c (.t (.int .i64 1))))⟩, ⟨(some 1), none, (.mv (.t 20))⟩]) (.seq (.seq (.drawn [(.mk 0 false ⟨(some 21), none, (.mv (.t 0))⟩), (.mk 1 false ⟨(some 22), none, (.mv (.t 5))⟩), (.mk 2 false ⟨(some 23), none, (.indexAddr 2 (.t 21) (.t 22))⟩), (.mk 3 false ⟨(some 24), none, (.fieldAddr 1 (.t 23))⟩), (.mk 4 false ⟨(some 25), none, (.load none (.t 24))⟩), (.mk 5 false ⟨(some 26), none, (.mv (.t 1))⟩), (.mk 6 true ⟨(some 27), none, (.call (.c (.fn (.func 85) [])) [(.t 26)])⟩), (.mk 7 false ⟨(some 28), none, (.bin .neq (.t 25) (.t 27))⟩)]) (.cond (.t 28) (.seq (.ops [⟨(some 4), none, (.mv (.c (.t (.int .i64 (-1)))))⟩]) .ret) .skip)) (.ops [⟨(some 29), none, (.mv (.t 1))⟩, ⟨(some 30), none, (.bin .add (.t 29) (.c (.t (.int .i64 1))))⟩, ⟨(some 1), none, (.mv (.t 30))⟩]))))
theorem row_heldRecSlotS : RowHeld Try.prog markTxt 2 c_heldRecSlotS shRecSlot := by
  intro b Q e σ i rows row k g0 g5 g1 hr hT hz hk hlt hQ
  obtain ⟨n0, n1, rfl, b0, b1⟩ := isRecSlot hT
  rw [sizeRecSlot] at hz
  have hm : T.mkL markTxt k [.int .i64 n0, .str n1] = ([.int .i64 ((k : Nat) : Int), .str (markTxt (k + 1))], (k + 2)) := by simp only [mkL_cons, mkL_nil, mkc_int, mkc_bool, mkc_str, Nat.add_assoc, Nat.reduceAdd]
  rw [hm] at hlt hQ hr
  simp only at hlt hQ hr
  clear hm
  have w0 : IntKind.i64.wrap (((k : Nat) : Int) + 1) = (((k + 1) : Nat) : Int) := i64_succ (k := k) (by omega)
  have w1 : IntKind.i64.wrap ((((k + 1) : Nat) : Int) + 1) = (((k + 2) : Nat) : Int) := i64_succ (k := (k + 1)) (by omega)
  have three : ((3 : Int) ≠ 0) = True := by simp
  simp -implicitDefEqProofs only [c_heldRecSlotS, g0, g5, g1, hr, nat_nn, three, nat_neg, ne_self, beq_self_eq_true, Nat.zero_le, w0, w1, S0, S1, S2, S3, S4, S5, S6, S7, S8, S9, S10, S11, S12, S13, S14, S15, opv, opvs, eget, env0, setD, lenStr, lenSl, isNilP, isNilS, putAt, if_true, if_false, reduceCtorEq, Nat.reduceLeDiff, Nat.reduceEqDiff, Nat.reduceSub, Nat.reduceMul, Nat.reduceAdd]
  refine call_pure (textOk (k + 1) _ (by omega) (by omega)) ?_
  simp -implicitDefEqProofs only [g0, g5, g1, hr, nat_nn, three, nat_neg, ne_self, beq_self_eq_true, Nat.zero_le, w0, w1, S0, S1, S2, S3, S4, S5, S6, S7, S8, S9, S10, S11, S12, S13, S14, S15, opv, opvs, eget, env0, setD, lenStr, lenSl, isNilP, isNilS, putAt, if_true, if_false, reduceCtorEq, Nat.reduceLeDiff, Nat.reduceEqDiff, Nat.reduceSub, Nat.reduceMul, Nat.reduceAdd]
  refine hQ _ ?_ ?_ ?_ <;> simp -implicitDefEqProofs only [g0, g5, g1, S0, S1, S2, S3, S4, S5, S6, S7, S8, S9, S10, S11, S12, S13, S14, S15, opv, opvs, eget, env0, setD, lenStr, lenSl, isNilP, isNilS, putAt, if_true, if_false, reduceCtorEq, Nat.reduceLeDiff, Nat.reduceEqDiff, Nat.reduceSub, Nat.reduceMul, Nat.reduceAdd]
theorem i_heldRecSlotS : Is Try.prog 27 32 [(.tmp 4)] (tMarkS 31 c_heldRecSlotS) := ⟨_, _, Try.func27, by decide +kernel, rfl, rfl, by kernel_rfl, rfl⟩
theorem heldRecSlotS : HeldOk Try.prog markTxt 27 (.sl 2 shRecSlot) := heldS_ok rfl (by decide) (by decide) i_heldRecSlotS row_heldRecSlotS
def c_laws_markRecDisk : C := (.seq (.ops [⟨(some 2), none, (.box (.t 0))⟩, ⟨(some 4), none, (.mv (.c (.t (.int .i64 0))))⟩]) (.seq (.ops [⟨(some 5), none, (.fieldAddr 2 (.t 2))⟩, ⟨(some 6), none, (.load none (.t 5))⟩, ⟨(some 7), none, (.mv (.t 1))⟩, ⟨(some 8), none, (.call (.c (.fn (.func 26) [])) [(.t 6), (.t 7)])⟩, ⟨(some 1), none, (.mv (.t 8))⟩]) (.seq (.ops [⟨(some 9), none, (.mv (.t 1))⟩, ⟨(some 4), none, (.mv (.t 9))⟩]) .ret)))
theorem k_laws_markRecDisk : comp Try.prog 10 (Try.f91.body.getD .skip) = some c_laws_markRecDisk := by kernel_rfl

theorem markRecDisk : MarkLOk Try.prog markTxt 91 shRecDisk := by
  rintro ts us is k σ hT hz hO hnd hk hlt
  obtain ⟨n0, n1, n2, rfl, b0, b1, b2⟩ := isRecDisk hT
  rw [sizeRecDisk] at hz
  have hm : T.mkVL markTxt k [.int .i64 n0, .int .i64 n1, n2] = ([.int .i64 n0, .int .i64 n1, (T.mk markTxt k n2).1], (T.mk markTxt k n2).2) := by simp only [mkVL_cons, mkVL_nil, mkV_int, mkV_bool, mkV_str, mkV_sl b2]
  rw [hm] at hlt ⊢
  simp only at hlt ⊢
  clear hm
  obtain ⟨_, rfl, hO0⟩ := oc_int hO
  clear hO
  obtain ⟨_, rfl, hO1⟩ := oc_int hO0
  clear hO0
  obtain ⟨u2, _, j2, _, rfl, rfl, o2, hO2⟩ := oc_lst hO1
  clear hO1
  obtain ⟨rfl, rfl⟩ := oc_nil hO2
  have l2 := mk_le (mt := markTxt) (k := k) (t := n2)
  refine acalls_of Try.func91 (by decide +kernel) (code := Try.f91.body.getD .skip) (n := 10) (c := c_laws_markRecDisk) (rs := [(.tmp 4)]) rfl rfl k_laws_markRecDisk (by kernel_rfl) (by simp) (fun hσ => ?_)
  obtain ⟨nd2, rest2, dj2, dk2⟩ := nd_app hnd
  have U2 : Own σ n2 u2 j2 := o2
  have N2 := nd2
  have lt2 := U2.lt
  simp -implicitDefEqProofs only [c_laws_markRecDisk, one_cells o2.one, o2.one, S0, S1, S2, S3, S4, S5, S6, S7, S8, S9, S10, S11, S12, S13, S14, S15, opv, opvs, eget, env0, setD, lenStr, lenSl, isNilP, isNilS, putAt, if_true, if_false, reduceCtorEq, Nat.reduceLeDiff, Nat.reduceEqDiff, Nat.reduceSub, Nat.reduceMul, Nat.reduceAdd]
  refine call_by (by rw [List.append_nil]; exact markRecSlotS n2 u2 j2 k _ b2 (by omega) (U2.pre (List.prefix_append _ _)) N2 (by omega) (by omega)) ?_
  rintro r' σ2 ⟨rfl, q2, y2, f2⟩
  have eb2 := f2 σ.length (by first | simp | (simp only [List.length_append, List.length_cons, List.length_nil] at *; omega)) (fun h => Nat.lt_irrefl _ (lt2 _ h))
  rw [q_app_get0] at eb2
  simp only [List.getElem?_cons_zero] at eb2
  simp -implicitDefEqProofs only [eb2, one_cells o2.one, o2.one, S0, S1, S2, S3, S4, S5, S6, S7, S8, S9, S10, S11, S12, S13, S14, S15, opv, opvs, eget, env0, setD, lenStr, lenSl, isNilP, isNilS, putAt, if_true, if_false, reduceCtorEq, Nat.reduceLeDiff, Nat.reduceEqDiff, Nat.reduceSub, Nat.reduceMul, Nat.reduceAdd]
  have hf : OwnL _ [.int .i64 n0, .int .i64 n1, (T.mk markTxt k n2).1] [.t (.int .i64 n0), .t (.int .i64 n1), u2] _ := (OwnL.int (OwnL.int (OwnL.lst q2 OwnL.nil0)))
  try simp only [List.append_assoc, List.append_nil, List.nil_append] at hf
  try simp only [List.append_assoc, List.append_nil, List.nil_append]
  simp only [List.length_append, List.length_cons, List.length_nil] at y2
  refine fin_keep (by omega) ⟨by simp [mkRes], hf, by omega, fun j hj hn => ?_⟩
  try simp only [List.mem_append, List.not_mem_nil, not_or, not_false_eq_true, and_true, or_false] at hn
  rw [f2 j (by first | omega | (simp only [List.length_append, List.length_cons, List.length_nil]; omega)) (by first | exact hn | simp [hn])]
  rw [List.getElem?_append_left hj]
def c_laws_heldRecDisk : C := (.seq (.ops [⟨(some 2), none, (.box (.t 0))⟩, ⟨(some 4), none, (.mv (.c (.t (.int .i64 0))))⟩]) (.seq (.ops [⟨(some 5), none, (.fieldAddr 2 (.t 2))⟩, ⟨(some 6), none, (.load none (.t 5))⟩, ⟨(some 7), none, (.mv (.t 1))⟩, ⟨(some 8), none, (.call (.c (.fn (.func 27) [])) [(.t 6), (.t 7)])⟩, ⟨(some 1), none, (.mv (.t 8))⟩]) (.seq (.seq (.ops [⟨(some 9), none, (.mv (.t 1))⟩, ⟨(some 10), none, (.bin .lss (.t 9) (.c (.t (.int .i64 0))))⟩]) (.cond (.t 10) (.seq (.ops [⟨(some 4), none, (.mv (.c (.t (.int .i64 (-1)))))⟩]) .ret) .skip)) (.seq (.ops [⟨(some 11), none, (.mv (.t 1))⟩, ⟨(some 4), none, (.mv (.t 11))⟩]) .ret))))
theorem k_laws_heldRecDisk : comp Try.prog 12 (Try.f95.body.getD .skip) = some c_laws_heldRecDisk := by kernel_rfl

theorem heldRecDisk : HeldLOk Try.prog markTxt 95 shRecDisk := by
  rintro ts k σ hT hz hk hlt
  obtain ⟨n0, n1, n2, rfl, b0, b1, b2⟩ := isRecDisk hT
  rw [sizeRecDisk] at hz
  have hm : T.mkVL markTxt k [.int .i64 n0, .int .i64 n1, n2] = ([.int .i64 n0, .int .i64 n1, (T.mk markTxt k n2).1], (T.mk markTxt k n2).2) := by simp only [mkVL_cons, mkVL_nil, mkV_int, mkV_bool, mkV_str, mkV_sl b2]
  rw [hm] at hlt ⊢
  simp only at hlt ⊢
  clear hm
  have l2 := mk_le (mt := markTxt) (k := k) (t := n2)
  refine acalls_of Try.func95 (by decide +kernel) (code := Try.f95.body.getD .skip) (n := 12) (c := c_laws_heldRecDisk) (rs := [(.tmp 4)]) rfl rfl k_laws_heldRecDisk (by kernel_rfl) (by simp) (fun hσ => ?_)
  have H2 := fun σ' => heldRecSlotS n2 k σ' b2 (by omega) (by omega) (by omega)
  simp -implicitDefEqProofs only [c_laws_heldRecDisk, nat_neg, S0, S1, S2, S3, S4, S5, S6, S7, S8, S9, S10, S11, S12, S13, S14, S15, opv, opvs, eget, env0, setD, lenStr, lenSl, isNilP, isNilS, putAt, if_true, if_false, reduceCtorEq, Nat.reduceLeDiff, Nat.reduceEqDiff, Nat.reduceSub, Nat.reduceMul, Nat.reduceAdd]
  refine call_pure (H2 _) ?_
  simp -implicitDefEqProofs only [nat_neg, S0, S1, S2, S3, S4, S5, S6, S7, S8, S9, S10, S11, S12, S13, S14, S15, opv, opvs, eget, env0, setD, lenStr, lenSl, isNilP, isNilS, putAt, if_true, if_false, reduceCtorEq, Nat.reduceLeDiff, Nat.reduceEqDiff, Nat.reduceSub, Nat.reduceMul, Nat.reduceAdd]
  exact ret_same rfl hσ rfl ⟨rfl, rfl⟩
def c_markRecMessageS : C := (.seq (.ops [⟨(some 12), none, (.mv (.t 0))⟩, ⟨(some 13), none, (.mv (.t 5))⟩, ⟨(some 14), none, (.mv (.t 1))⟩, ⟨(some 15), none, (.indexAddr 8 (.t 12) (.t 13))⟩, ⟨(some 16), none, (.fieldAddr 0 (.t 15))⟩, ⟨none, none, (.store 1 (.t 16) (.t 14))⟩]) (.seq (.ops [⟨(some 17), none, (.mv (.t 1))⟩, ⟨(some 18), none, (.bin .add (.t 17) (.c (.t (.int .i64 1))))⟩, ⟨(some 1), none, (.mv (.t 18))⟩]) (.seq (.ops [⟨(some 19), none, (.mv (.t 0))⟩, ⟨(some 20), none, (.mv (.t 5))⟩, ⟨(some 21), none, (.mv (.t 1))⟩, ⟨(some 22), none, (.indexAddr 8 (.t 19) (.t 20))⟩, ⟨(some 23), none, (.fieldAddr 1 (.t 22))⟩, ⟨none, none, (.store 1 (.t 23) (.t 21))⟩]) (.seq (.ops [⟨(some 24), none, (.mv (.t 1))⟩, ⟨(some 25), none, (.bin .add (.t 24) (.c (.t (.int .i64 1))))⟩, ⟨(some 1), none, (.mv (.t 25))⟩]) (.seq (.ops [⟨(some 26), none, (.mv (.t 0))⟩, ⟨(some 27), none, (.mv (.t 5))⟩, ⟨(some 28), none, (.mv (.t 1))⟩, ⟨(some 29), none, (.indexAddr 8 (.t 26) (.t 27))⟩, ⟨(some 30), none, (.fieldAddr 2 (.t 29))⟩, ⟨none, none, (.store 1 (.t 30) (.t 28))⟩]) (.seq (.ops [⟨(some 31), none, (.mv (.t 1))⟩, ⟨(some 32), none, (.bin .add (.t 31) (.c (.t (.int .i64 1))))⟩, ⟨(some 1), none, (.mv (.t 32))⟩]) (.seq (.ops [⟨(some 33), none, (.mv (.t 0))⟩, ⟨(some 34), none, (.mv (.t 5))⟩, ⟨(some 35), none, (.mv (.t 1))⟩, ⟨(some 36), none, (.indexAddr 8 (.t 33) (.t 34))⟩, ⟨(some 37), none, (.fieldAddr 3 (.t 36))⟩, ⟨none, none, (.store 1 (.t 37) (.t 35))⟩]) (.seq (.ops [⟨(some 38), none, (.mv (.t 1))⟩, ⟨(some 39), none, (.bin .add (.t 38) (.c (.t (.int .i64 1))))⟩, ⟨(some 1), none, (.mv (.t 39))⟩]) (.seq (.ops [⟨(some 40), none, (.mv (.t 0))⟩, ⟨(some 41), none, (.mv (.t 5))⟩, ⟨(some 42), none, (.mv (.t 1))⟩, ⟨(some 43), none, (.indexAddr 8 (.t 40) (.t 41))⟩, ⟨(some 44), none, (.fieldAddr 4 (.t 43))⟩, ⟨none, none, (.store 1 (.t 44) (.t 42))⟩]) (.seq (.ops [⟨(some 45), none, (.mv (.t 1))⟩, ⟨(some 46), none, (.bin .add (.t 45) (.c (.t (.int .i64 1))))⟩, ⟨(some 1), none, (.mv (.t 46))⟩]) (.seq (.ops [⟨(some 47), none, (.mv (.t 0))⟩, ⟨(some 48), none, (.mv (.t 5))⟩, ⟨(some 49), none, (.mv (.t 1))⟩, ⟨(some 50), none, (.indexAddr 8 (.t 47) (.t 48))⟩, ⟨(some 51), none, (.fieldAddr 5 (.t 50))⟩, ⟨none, none, (.store 1 (.t 51) (.t 49))⟩]) (.seq (.ops [⟨(some 52), none, (.mv (.t 1))⟩, ⟨(some 53), none, (.bin .add (.t 52) (.c (.t (.int .i64 1))))⟩, ⟨(some 1), none, (.mv (.t 53))⟩]) (.seq (.ops [⟨(some 54), none, (.mv (.t 0))⟩, ⟨(some 55), none, (.mv (.t 5))⟩, ⟨(some 56), none, (.mv (.t 1))⟩, ⟨(some 57), none, (.call (.c (.fn (.func 85) [])) [(.t 56)])⟩, ⟨(some 58), none, (.indexAddr 8 (.t 54) (.t 55))⟩, ⟨(some 59), none, (.fieldAddr 6 (.t 58))⟩, ⟨none, none, (.store 1 (.t 59) (.t 57))⟩]) (.seq (.ops [⟨(some 60), none, (.mv (.t 1))⟩, ⟨(some 61), none, (.bin .add (.t 60) (.c (.t (.int .i64 1))))⟩, ⟨(some 1), none, (.mv (.t 61))⟩]) (.ops [⟨(some 62), none, (.mv (.t 0))⟩, ⟨(some 63), none, (.mv (.t 5))⟩, ⟨(some 64), none, (.indexAddr 8 (.t 62) (.t 63))⟩, ⟨(some 65), none, (.fieldAddr 7 (.t 64))⟩, ⟨(some 66), none, (.load none (.t 65))⟩, ⟨(some 67), none, (.mv (.t 1))⟩, ⟨(some 68), none, (.call (.c (.fn (.func 26) [])) [(.t 66), (.t 67)])⟩, ⟨(some 1), none, (.mv (.t 68))⟩])))))))))))))))
theorem row_markRecMessageS : RowMark Try.prog markTxt 8 c_markRecMessageS shRecMessage := by
  intro b Q e σ id len i rs row r ji k g0 g5 g1 hl hi hs hr hT hz hO hnd hk hlt hQ
  obtain ⟨n0, n1, n2, n3, n4, n5, n6, n7, rfl, b0, b1, b2, b3, b4, b5, b6, b7⟩ := isRecMessage hT
  rw [sizeRecMessage] at hz
  have hm : T.mkL markTxt k [.int .i64 n0, .int .i64 n1, .int .i64 n2, .int .i64 n3, .int .i64 n4, .int .i64 n5, .str n6, n7] = ([.int .i64 ((k : Nat) : Int), .int .i64 (((k + 1) : Nat) : Int), .int .i64 (((k + 2) : Nat) : Int), .int .i64 (((k + 3) : Nat) : Int), .int .i64 (((k + 4) : Nat) : Int), .int .i64 (((k + 5) : Nat) : Int), .str (markTxt (k + 6)), (T.mk markTxt (k + 7) n7).1], (T.mk markTxt (k + 7) n7).2) := by simp only [mkL_cons, mkL_nil, mkc_int, mkc_bool, mkc_str, Nat.add_assoc, Nat.reduceAdd]
  rw [hm] at hlt hQ
  simp only at hlt hQ
  clear hm
  obtain ⟨_, rfl, hO0⟩ := oc_int hO
  clear hO
  obtain ⟨_, rfl, hO1⟩ := oc_int hO0
  clear hO0
  obtain ⟨_, rfl, hO2⟩ := oc_int hO1
  clear hO1
  obtain ⟨_, rfl, hO3⟩ := oc_int hO2
  clear hO2
  obtain ⟨_, rfl, hO4⟩ := oc_int hO3
  clear hO3
  obtain ⟨_, rfl, hO5⟩ := oc_int hO4
  clear hO4
  obtain ⟨_, rfl, hO6⟩ := oc_str hO5
  clear hO5
  obtain ⟨u7, _, j7, _, rfl, rfl, o7, hO7⟩ := oc_lst hO6
  clear hO6
  obtain ⟨rfl, rfl⟩ := oc_nil hO7
  have l7 := mk_le (mt := markTxt) (k := (k + 7)) (t := n7)
  have w0 : IntKind.i64.wrap (((k : Nat) : Int) + 1) = (((k + 1) : Nat) : Int) := i64_succ (k := k) (by omega)
  have w1 : IntKind.i64.wrap ((((k + 1) : Nat) : Int) + 1) = (((k + 2) : Nat) : Int) := i64_succ (k := (k + 1)) (by omega)
  have w2 : IntKind.i64.wrap ((((k + 2) : Nat) : Int) + 1) = (((k + 3) : Nat) : Int) := i64_succ (k := (k + 2)) (by omega)
  have w3 : IntKind.i64.wrap ((((k + 3) : Nat) : Int) + 1) = (((k + 4) : Nat) : Int) := i64_succ (k := (k + 3)) (by omega)
  have w4 : IntKind.i64.wrap ((((k + 4) : Nat) : Int) + 1) = (((k + 5) : Nat) : Int) := i64_succ (k := (k + 4)) (by omega)
  have w5 : IntKind.i64.wrap ((((k + 5) : Nat) : Int) + 1) = (((k + 6) : Nat) : Int) := i64_succ (k := (k + 5)) (by omega)
  have w6 : IntKind.i64.wrap ((((k + 6) : Nat) : Int) + 1) = (((k + 7) : Nat) : Int) := i64_succ (k := (k + 6)) (by omega)
  have hidl := (List.getElem?_eq_some_iff.1 hs).1
  have s0 : ∀ o, (σ.set id o)[id]? = some o := fun o => by simp [hidl]
  have rr : ∀ x, (rs.set i x)[i]? = some x := fun x => by simp [hl, hi]
  have hi' : ((i : Nat) : Int) < ((len : Nat) : Int) := by omega
  have three : ((3 : Int) ≠ 0) = True := by simp
  obtain ⟨nid, nd⟩ := List.nodup_cons.1 hnd
  simp only [List.mem_append, not_or, List.not_mem_nil, not_false_eq_true, and_true] at nid
  obtain ⟨nd7, rest7, dj7, dk7⟩ := nd_app nd
  have ni7 : id ∉ j7 := nid
  simp -implicitDefEqProofs only [c_markRecMessageS, g0, g5, g1, hs, hr, hl, hi', nat_nn, s0, rr, three, Nat.zero_le, w0, w1, w2, w3, w4, w5, w6, one_cells o7.one, o7.one, S0, S1, S2, S3, S4, S5, S6, S7, S8, S9, S10, S11, S12, S13, S14, S15, opv, opvs, eget, env0, setD, lenStr, lenSl, isNilP, isNilS, putAt, if_true, if_false, reduceCtorEq, Nat.reduceLeDiff, Nat.reduceEqDiff, Nat.reduceSub, Nat.reduceMul, Nat.reduceAdd]
  refine call_pure (textOk (k + 6) _ (by omega) (by omega)) ?_
  simp -implicitDefEqProofs only [g0, g5, g1, hs, hr, hl, hi', nat_nn, s0, rr, three, Nat.zero_le, w0, w1, w2, w3, w4, w5, w6, one_cells o7.one, o7.one, S0, S1, S2, S3, S4, S5, S6, S7, S8, S9, S10, S11, S12, S13, S14, S15, opv, opvs, eget, env0, setD, lenStr, lenSl, isNilP, isNilS, putAt, if_true, if_false, reduceCtorEq, Nat.reduceLeDiff, Nat.reduceEqDiff, Nat.reduceSub, Nat.reduceMul, Nat.reduceAdd]
  refine call_by (by rw [List.append_nil]; exact markRecSlotS n7 u7 j7 (k + 7) _ b7 (by omega) (o7.set ni7) nd7 (by omega) (by omega)) ?_
  rintro r' σ7 ⟨rfl, q7, y7, f7⟩
  have e7 := f7 id (by simp only [List.length_set]; exact hidl) ni7
  first | rw [s0] at e7 | rw [hs] at e7
  have h7 := (List.getElem?_eq_some_iff.1 e7).1
  have s7 : ∀ o, (σ7.set id o)[id]? = some o := fun o => by simp [h7]
  simp -implicitDefEqProofs only [s7, e7, g0, g5, g1, hs, hr, hl, hi', nat_nn, s0, rr, three, Nat.zero_le, w0, w1, w2, w3, w4, w5, w6, one_cells o7.one, o7.one, S0, S1, S2, S3, S4, S5, S6, S7, S8, S9, S10, S11, S12, S13, S14, S15, opv, opvs, eget, env0, setD, lenStr, lenSl, isNilP, isNilS, putAt, if_true, if_false, reduceCtorEq, Nat.reduceLeDiff, Nat.reduceEqDiff, Nat.reduceSub, Nat.reduceMul, Nat.reduceAdd]
  refine hQ _ _ [.t (.int .i64 ((k : Nat) : Int)), .t (.int .i64 (((k + 1) : Nat) : Int)), .t (.int .i64 (((k + 2) : Nat) : Int)), .t (.int .i64 (((k + 3) : Nat) : Int)), .t (.int .i64 (((k + 4) : Nat) : Int)), .t (.int .i64 (((k + 5) : Nat) : Int)), .t (.str (markTxt (k + 6))), u7] ?_ ?_ ?_ ?_ ?_ ?_ ?_
  · simp -implicitDefEqProofs only [g0, g5, g1, S0, S1, S2, S3, S4, S5, S6, S7, S8, S9, S10, S11, S12, S13, S14, S15, opv, opvs, eget, env0, setD, lenStr, lenSl, isNilP, isNilS, putAt, if_true, if_false, reduceCtorEq, Nat.reduceLeDiff, Nat.reduceEqDiff, Nat.reduceSub, Nat.reduceMul, Nat.reduceAdd]
  · simp -implicitDefEqProofs only [g0, g5, g1, S0, S1, S2, S3, S4, S5, S6, S7, S8, S9, S10, S11, S12, S13, S14, S15, opv, opvs, eget, env0, setD, lenStr, lenSl, isNilP, isNilS, putAt, if_true, if_false, reduceCtorEq, Nat.reduceLeDiff, Nat.reduceEqDiff, Nat.reduceSub, Nat.reduceMul, Nat.reduceAdd]
  · simp -implicitDefEqProofs only [g0, g5, g1, S0, S1, S2, S3, S4, S5, S6, S7, S8, S9, S10, S11, S12, S13, S14, S15, opv, opvs, eget, env0, setD, lenStr, lenSl, isNilP, isNilS, putAt, if_true, if_false, reduceCtorEq, Nat.reduceLeDiff, Nat.reduceEqDiff, Nat.reduceSub, Nat.reduceMul, Nat.reduceAdd]
  · exact e7
  · exact (OwnL.int (OwnL.int (OwnL.int (OwnL.int (OwnL.int (OwnL.int (OwnL.str (OwnL.lst q7 OwnL.nil0))))))))
  · simp only [List.length_set] at y7 ⊢
    omega
  · intro j hj hn
    simp only [List.mem_cons, List.mem_append, List.not_mem_nil, not_or, not_false_eq_true, and_true] at hn
    rw [f7 j (by simp only [List.length_set] at y7 ⊢; omega) hn.2]
    rw [List.getElem?_set_ne (fun e => hn.1 e.symm)]
theorem i_markRecMessageS : Is Try.prog 92 70 [(.tmp 4)] (tMarkS 69 c_markRecMessageS) := ⟨_, _, Try.func92, by decide +kernel, rfl, rfl, by kernel_rfl, rfl⟩
theorem markRecMessageS : MarkOk Try.prog markTxt 92 (.sl 8 shRecMessage) := markS_ok rfl (by decide) (by decide) i_markRecMessageS row_markRecMessageS
def c_heldRecMessageS : C := (.seq (.seq (.ops [⟨(some 12), none, (.mv (.t 0))⟩, ⟨(some 13), none, (.mv (.t 5))⟩, ⟨(some 14), none, (.indexAddr 8 (.t 12) (.t 13))⟩, ⟨(some 15), none, (.fieldAddr 0 (.t 14))⟩, ⟨(some 16), none, (.load none (.t 15))⟩, ⟨(some 17), none, (.mv (.t 1))⟩, ⟨(some 18), none, (.bin .neq (.t 16) (.t 17))⟩]) (.cond (.t 18) (.seq (.ops [⟨(some 4), none, (.mv (.c (.t (.int .i64 (-1)))))⟩]) .ret) .skip)) (.seq (.ops [⟨(some 19), none, (.mv (.t 1))⟩, ⟨(some 20), none, (.bin .add (.t 19) (.c (.t (.int .i64 1))))⟩, ⟨(some 1), none, (.mv (.t 20))⟩]) (.seq (.seq (.ops [⟨(some 21), none, (.mv (.t 0))⟩, ⟨(some 22), none, (.mv (.t 5))⟩, ⟨(some 23), none, (.indexAddr 8 (.t 21) (.t 22))⟩, ⟨(some 24), none, (.fieldAddr 1 (.t 23))⟩, ⟨(some 25), none, (.load none (.t 24))⟩, ⟨(some 26), none, (.mv (.t 1))⟩, ⟨(some 27), none, (.bin .neq (.t 25) (.t 26))⟩]) (.cond (.t 27) (.seq (.ops [⟨(some 4), none, (.mv (.c (.t (.int .i64 (-1)))))⟩]) .ret) .skip)) (.seq (.ops [⟨(some 28), none, (.mv (.t 1))⟩, ⟨(some 29), none, (.bin .add (.t 28) (.c (.t (.int .i64 1))))⟩, ⟨(some 1), none, (.mv (.t 29))⟩]) (.seq (.seq (.ops [⟨(some 30), none, (.mv (.t 0))⟩, ⟨(some 31), none, (.mv (.t 5))⟩, ⟨(some 32), none, (.indexAddr 8 (.t 30) (.t 31))⟩, ⟨(some 33), none, (.fieldAddr 2 (.t 32))⟩, ⟨(some 34), none, (.load none (.t 33))⟩, ⟨(some 35), none, (.mv (.t 1))⟩, ⟨(some 36), none, (.bin .neq (.t 34) (.t 35))⟩]) (.cond (.t 36) (.seq (.ops [⟨(some 4), none, (.mv (.c (.t (.int .i64 (-1)))))⟩]) .ret) .skip)) (.seq (.ops [⟨(some 37), none, (.mv (.t 1))⟩, ⟨(some 38), none, (.bin .add (.t 37) (.c (.t (.int .i64 1))))⟩, ⟨(some 1), none, (.mv (.t 38))⟩]) (.seq (.seq (.ops [⟨(some 39), none, (.mv (.t 0))⟩, ⟨(some 40), none, (.mv (.t 5))⟩, ⟨(some 41), none, (.indexAddr 8 (.t 39) (.t 40))⟩, ⟨(some 42), none, (.fieldAddr 3 (.t 41))⟩, ⟨(some 43), none, (.load none (.t 42))⟩, ⟨(some 44), none, (.mv (.t 1))⟩, ⟨(some 45), none, (.bin .neq (.t 43) (.t 44))⟩]) (.cond (.t 45) (.seq (.ops [⟨(some 4), none, (.mv (.c (.t (.int .i64 (-1)))))⟩]) .ret) .skip)) (.seq (.ops [⟨(some 46), none, (.mv (.t 1))⟩, ⟨(some 47), none, (.bin .add (.t 46) (.c (.t (.int .i64 1))))⟩, ⟨(some 1), none, (.mv (.t 47))⟩]) (.seq (.seq (.ops [⟨(some 48), none, (.mv (.t 0))⟩, ⟨(some 49), none, (.mv (.t 5))⟩, ⟨(some 50), none, (.indexAddr 8 (.t 48) (.t 49))⟩, ⟨(some 51), none, (.fieldAddr 4 (.t 50))⟩, ⟨(some 52), none, (.load none (.t 51))⟩, ⟨(some 53), none, (.mv (.t 1))⟩, ⟨(some 54), none, (.bin .neq (.t 52) (.t 53))⟩]) (.cond (.t 54) (.seq (.ops [⟨(some 4), none, (.mv (.c (.t (.int .i64 (-1)))))⟩]) .ret) .skip)) (.seq (.ops [⟨(some 55), none, (.mv (.t 1))⟩, ⟨(some 56), none, (.bin .add (.t 55) (.c (.t (.int .i64 1))))⟩, ⟨(some 1), none, (.mv (.t 56))⟩]) (.seq (.seq (.ops [⟨(some 57), none, (.mv (.t 0))⟩, ⟨(some 58), none, (.mv (.t 5))⟩, ⟨(some 59), none, (.indexAddr 8 (.t 57) (.t 58))⟩, ⟨(some 60), none, (.fieldAddr 5 (.t 59))⟩, ⟨(some 61), none, (.load none (.t 60))⟩, ⟨(some 62), none, (.mv (.t 1))⟩, ⟨(some 63), none, (.bin .neq (.t 61) (.t 62))⟩]) (.cond (.t 63) (.seq (.ops [⟨(some 4), none, (.mv (.c (.t (.int .i64 (-1)))))⟩]) .ret) .skip)) (.seq (.ops [⟨(some 64), none, (.mv (.t 1))⟩, ⟨(some 65), none, (.bin .add (.t 64) (.c (.t (.int .i64 1))))⟩, ⟨(some 1), none, (.mv (.t 65))⟩]) (.seq (.seq (.drawn [(.mk 0 false ⟨(some 66), none, (.mv (.t 0))⟩), (.mk 1 false ⟨(some 67), none, (.mv (.t 5))⟩), (.mk 2 false ⟨(some 68), none, (.indexAddr 8 (.t 66) (.t 67))⟩), (.mk 3 false ⟨(some 69), none, (.fieldAddr 6 (.t 68))⟩), (.mk 4 false ⟨(some 70), none, (.load none (.t 69))⟩), (.mk 5 false ⟨(some 71), none, (.mv (.t 1))⟩), (.mk 6 true ⟨(some 72), none, (.call (.c (.fn (.func 85) [])) [(.t 71)])⟩), (.mk 7 false ⟨(some 73), none, (.bin .neq (.t 70) (.t 72))⟩)]) (.cond (.t 73) (.seq (.ops [⟨(some 4), none, (.mv (.c (.t (.int .i64 (-1)))))⟩]) .ret) .skip)) (.seq (.ops [⟨(some 74), none, (.mv (.t 1))⟩, ⟨(some 75), none, (.bin .add (.t 74) (.c (.t (.int .i64 1))))⟩, ⟨(some 1), none, (.mv (.t 75))⟩]) (.seq (.ops [⟨(some 76), none, (.mv (.t 0))⟩, ⟨(some 77), none, (.mv (.t 5))⟩, ⟨(some 78), none, (.indexAddr 8 (.t 76) (.t 77))⟩, ⟨(some 79), none, (.fieldAddr 7 (.t 78))⟩, ⟨(some 80), none, (.load none (.t 79))⟩, ⟨(some 81), none, (.mv (.t 1))⟩, ⟨(some 82), none, (.call (.c (.fn (.func 27) [])) [(.t 80), (.t 81)])⟩, ⟨(some 1), none, (.mv (.t 82))⟩]) (.seq (.ops [⟨(some 83), none, (.mv (.t 1))⟩, ⟨(some 84), none, (.bin .lss (.t 83) (.c (.t (.int .i64 0))))⟩]) (.cond (.t 84) (.seq (.ops [⟨(some 4), none, (.mv (.c (.t (.int .i64 (-1)))))⟩]) .ret) .skip)))))))))))))))))
theorem row_heldRecMessageS : RowHeld Try.prog markTxt 8 c_heldRecMessageS shRecMessage := by
  intro b Q e σ i rows row k g0 g5 g1 hr hT hz hk hlt hQ
  obtain ⟨n0, n1, n2, n3, n4, n5, n6, n7, rfl, b0, b1, b2, b3, b4, b5, b6, b7⟩ := isRecMessage hT
  rw [sizeRecMessage] at hz
  have hm : T.mkL markTxt k [.int .i64 n0, .int .i64 n1, .int .i64 n2, .int .i64 n3, .int .i64 n4, .int .i64 n5, .str n6, n7] = ([.int .i64 ((k : Nat) : Int), .int .i64 (((k + 1) : Nat) : Int), .int .i64 (((k + 2) : Nat) : Int), .int .i64 (((k + 3) : Nat) : Int), .int .i64 (((k + 4) : Nat) : Int), .int .i64 (((k + 5) : Nat) : Int), .str (markTxt (k + 6)), (T.mk markTxt (k + 7) n7).1], (T.mk markTxt (k + 7) n7).2) := by simp only [mkL_cons, mkL_nil, mkc_int, mkc_bool, mkc_str, Nat.add_assoc, Nat.reduceAdd]
  rw [hm] at hlt hQ hr
  simp only at hlt hQ hr
  clear hm
  have l7 := mk_le (mt := markTxt) (k := (k + 7)) (t := n7)
  have w0 : IntKind.i64.wrap (((k : Nat) : Int) + 1) = (((k + 1) : Nat) : Int) := i64_succ (k := k) (by omega)
  have w1 : IntKind.i64.wrap ((((k + 1) : Nat) : Int) + 1) = (((k + 2) : Nat) : Int) := i64_succ (k := (k + 1)) (by omega)
  have w2 : IntKind.i64.wrap ((((k + 2) : Nat) : Int) + 1) = (((k + 3) : Nat) : Int) := i64_succ (k := (k + 2)) (by omega)
  have w3 : IntKind.i64.wrap ((((k + 3) : Nat) : Int) + 1) = (((k + 4) : Nat) : Int) := i64_succ (k := (k + 3)) (by omega)
  have w4 : IntKind.i64.wrap ((((k + 4) : Nat) : Int) + 1) = (((k + 5) : Nat) : Int) := i64_succ (k := (k + 4)) (by omega)
  have w5 : IntKind.i64.wrap ((((k + 5) : Nat) : Int) + 1) = (((k + 6) : Nat) : Int) := i64_succ (k := (k + 5)) (by omega)
  have w6 : IntKind.i64.wrap ((((k + 6) : Nat) : Int) + 1) = (((k + 7) : Nat) : Int) := i64_succ (k := (k + 6)) (by omega)
  have three : ((3 : Int) ≠ 0) = True := by simp
  simp -implicitDefEqProofs only [c_heldRecMessageS, g0, g5, g1, hr, nat_nn, three, nat_neg, ne_self, beq_self_eq_true, Nat.zero_le, w0, w1, w2, w3, w4, w5, w6, S0, S1, S2, S3, S4, S5, S6, S7, S8, S9, S10, S11, S12, S13, S14, S15, opv, opvs, eget, env0, setD, lenStr, lenSl, isNilP, isNilS, putAt, if_true, if_false, reduceCtorEq, Nat.reduceLeDiff, Nat.reduceEqDiff, Nat.reduceSub, Nat.reduceMul, Nat.reduceAdd]
  refine call_pure (textOk (k + 6) _ (by omega) (by omega)) ?_
  simp -implicitDefEqProofs only [g0, g5, g1, hr, nat_nn, three, nat_neg, ne_self, beq_self_eq_true, Nat.zero_le, w0, w1, w2, w3, w4, w5, w6, S0, S1, S2, S3, S4, S5, S6, S7, S8, S9, S10, S11, S12, S13, S14, S15, opv, opvs, eget, env0, setD, lenStr, lenSl, isNilP, isNilS, putAt, if_true, if_false, reduceCtorEq, Nat.reduceLeDiff, Nat.reduceEqDiff, Nat.reduceSub, Nat.reduceMul, Nat.reduceAdd]
  refine call_pure (heldRecSlotS n7 (k + 7) _ b7 (by omega) (by omega) (by omega)) ?_
  simp -implicitDefEqProofs only [g0, g5, g1, hr, nat_nn, three, nat_neg, ne_self, beq_self_eq_true, Nat.zero_le, w0, w1, w2, w3, w4, w5, w6, S0, S1, S2, S3, S4, S5, S6, S7, S8, S9, S10, S11, S12, S13, S14, S15, opv, opvs, eget, env0, setD, lenStr, lenSl, isNilP, isNilS, putAt, if_true, if_false, reduceCtorEq, Nat.reduceLeDiff, Nat.reduceEqDiff, Nat.reduceSub, Nat.reduceMul, Nat.reduceAdd]
  refine hQ _ ?_ ?_ ?_ <;> simp -implicitDefEqProofs only [g0, g5, g1, S0, S1, S2, S3, S4, S5, S6, S7, S8, S9, S10, S11, S12, S13, S14, S15, opv, opvs, eget, env0, setD, lenStr, lenSl, isNilP, isNilS, putAt, if_true, if_false, reduceCtorEq, Nat.reduceLeDiff, Nat.reduceEqDiff, Nat.reduceSub, Nat.reduceMul, Nat.reduceAdd]
theorem i_heldRecMessageS : Is Try.prog 96 86 [(.tmp 4)] (tMarkS 85 c_heldRecMessageS) := ⟨_, _, Try.func96, by decide +kernel, rfl, rfl, by kernel_rfl, rfl⟩
theorem heldRecMessageS : HeldOk Try.prog markTxt 96 (.sl 8 shRecMessage) := heldS_ok rfl (by decide) (by decide) i_heldRecMessageS row_heldRecMessageS
def c_markRecAckS : C := (.seq (.ops [⟨(some 12), none, (.mv (.t 0))⟩, ⟨(some 13), none, (.mv (.t 5))⟩, ⟨(some 14), none, (.mv (.t 1))⟩, ⟨(some 15), none, (.indexAddr 2 (.t 12) (.t 13))⟩, ⟨(some 16), none, (.fieldAddr 0 (.t 15))⟩, ⟨none, none, (.store 1 (.t 16) (.t 14))⟩]) (.seq (.ops [⟨(some 17), none, (.mv (.t 1))⟩, ⟨(some 18), none, (.bin .add (.t 17) (.c (.t (.int .i64 1))))⟩, ⟨(some 1), none, (.mv (.t 18))⟩]) (.ops [⟨(some 19), none, (.mv (.t 0))⟩, ⟨(some 20), none, (.mv (.t 5))⟩, ⟨(some 21), none, (.indexAddr 2 (.t 19) (.t 20))⟩, ⟨(some 22), none, (.fieldAddr 1 (.t 21))⟩, ⟨(some 23), none, (.load none (.t 22))⟩, ⟨(some 24), none, (.mv (.t 1))⟩, ⟨(some 25), none, (.call (.c (.fn (.func 93) [])) [(.t 23), (.t 24)])⟩, ⟨(some 1), none, (.mv (.t 25))⟩])))
theorem row_markRecAckS : RowMark Try.prog markTxt 2 c_markRecAckS shRecAck := by
  intro b Q e σ id len i rs row r ji k g0 g5 g1 hl hi hs hr hT hz hO hnd hk hlt hQ
  obtain ⟨n0, n1, rfl, b0, b1⟩ := isRecAck hT
  rw [sizeRecAck] at hz
  have hm : T.mkL markTxt k [.int .i64 n0, n1] = ([.int .i64 ((k : Nat) : Int), (T.mk markTxt (k + 1) n1).1], (T.mk markTxt (k + 1) n1).2) := by simp only [mkL_cons, mkL_nil, mkc_int, mkc_bool, mkc_str, Nat.add_assoc, Nat.reduceAdd]
  rw [hm] at hlt hQ
  simp only at hlt hQ
  clear hm
  obtain ⟨_, rfl, hO0⟩ := oc_int hO
  clear hO
  obtain ⟨u1, _, j1, _, rfl, rfl, o1, hO1⟩ := oc_lst hO0
  clear hO0
  obtain ⟨rfl, rfl⟩ := oc_nil hO1
  have l1 := mk_le (mt := markTxt) (k := (k + 1)) (t := n1)
  have w0 : IntKind.i64.wrap (((k : Nat) : Int) + 1) = (((k + 1) : Nat) : Int) := i64_succ (k := k) (by omega)
  have hidl := (List.getElem?_eq_some_iff.1 hs).1
  have s0 : ∀ o, (σ.set id o)[id]? = some o := fun o => by simp [hidl]
  have rr : ∀ x, (rs.set i x)[i]? = some x := fun x => by simp [hl, hi]
  have hi' : ((i : Nat) : Int) < ((len : Nat) : Int) := by omega
  have three : ((3 : Int) ≠ 0) = True := by simp
  obtain ⟨nid, nd⟩ := List.nodup_cons.1 hnd
  simp only [List.mem_append, not_or, List.not_mem_nil, not_false_eq_true, and_true] at nid
  obtain ⟨nd1, rest1, dj1, dk1⟩ := nd_app nd
  have ni1 : id ∉ j1 := nid
  simp -implicitDefEqProofs only [c_markRecAckS, g0, g5, g1, hs, hr, hl, hi', nat_nn, s0, rr, three, Nat.zero_le, w0, one_cells o1.one, o1.one, S0, S1, S2, S3, S4, S5, S6, S7, S8, S9, S10, S11, S12, S13, S14, S15, opv, opvs, eget, env0, setD, lenStr, lenSl, isNilP, isNilS, putAt, if_true, if_false, reduceCtorEq, Nat.reduceLeDiff, Nat.reduceEqDiff, Nat.reduceSub, Nat.reduceMul, Nat.reduceAdd]
  refine call_by (by rw [List.append_nil]; exact markIntS n1 u1 j1 (k + 1) _ b1 (by omega) (o1.set ni1) nd1 (by omega) (by omega)) ?_
  rintro r' σ1 ⟨rfl, q1, y1, f1⟩
  have e1 := f1 id (by simp only [List.length_set]; exact hidl) ni1
  first | rw [s0] at e1 | rw [hs] at e1
  have h1 := (List.getElem?_eq_some_iff.1 e1).1
  have s1 : ∀ o, (σ1.set id o)[id]? = some o := fun o => by simp [h1]
  simp -implicitDefEqProofs only [s1, e1, g0, g5, g1, hs, hr, hl, hi', nat_nn, s0, rr, three, Nat.zero_le, w0, one_cells o1.one, o1.one, S0, S1, S2, S3, S4, S5, S6, S7, S8, S9, S10, S11, S12, S13, S14, S15, opv, opvs, eget, env0, setD, lenStr, lenSl, isNilP, isNilS, putAt, if_true, if_false, reduceCtorEq, Nat.reduceLeDiff, Nat.reduceEqDiff, Nat.reduceSub, Nat.reduceMul, Nat.reduceAdd]
  refine hQ _ _ [.t (.int .i64 ((k : Nat) : Int)), u1] ?_ ?_ ?_ ?_ ?_ ?_ ?_
  · simp -implicitDefEqProofs only [g0, g5, g1, S0, S1, S2, S3, S4, S5, S6, S7, S8, S9, S10, S11, S12, S13, S14, S15, opv, opvs, eget, env0, setD, lenStr, lenSl, isNilP, isNilS, putAt, if_true, if_false, reduceCtorEq, Nat.reduceLeDiff, Nat.reduceEqDiff, Nat.reduceSub, Nat.reduceMul, Nat.reduceAdd]
  · simp -implicitDefEqProofs only [g0, g5, g1, S0, S1, S2, S3, S4, S5, S6, S7, S8, S9, S10, S11, S12, S13, S14, S15, opv, opvs, eget, env0, setD, lenStr, lenSl, isNilP, isNilS, putAt, if_true, if_false, reduceCtorEq, Nat.reduceLeDiff, Nat.reduceEqDiff, Nat.reduceSub, Nat.reduceMul, Nat.reduceAdd]
  · simp -implicitDefEqProofs only [g0, g5, g1, S0, S1, S2, S3, S4, S5, S6, S7, S8, S9, S10, S11, S12, S13, S14, S15, opv, opvs, eget, env0, setD, lenStr, lenSl, isNilP, isNilS, putAt, if_true, if_false, reduceCtorEq, Nat.reduceLeDiff, Nat.reduceEqDiff, Nat.reduceSub, Nat.reduceMul, Nat.reduceAdd]
  · exact e1
  · exact (OwnL.int (OwnL.lst q1 OwnL.nil0))
  · simp only [List.length_set] at y1 ⊢
    omega
  · intro j hj hn
    simp only [List.mem_cons, List.mem_append, List.not_mem_nil, not_or, not_false_eq_true, and_true] at hn
    rw [f1 j (by simp only [List.length_set] at y1 ⊢; omega) hn.2]
    rw [List.getElem?_set_ne (fun e => hn.1 e.symm)]
theorem i_markRecAckS : Is Try.prog 94 27 [(.tmp 4)] (tMarkS 26 c_markRecAckS) := ⟨_, _, Try.func94, by decide +kernel, rfl, rfl, by kernel_rfl, rfl⟩
theorem markRecAckS : MarkOk Try.prog markTxt 94 (.sl 2 shRecAck) := markS_ok rfl (by decide) (by decide) i_markRecAckS row_markRecAckS
def c_heldRecAckS : C := (.seq (.seq (.ops [⟨(some 12), none, (.mv (.t 0))⟩, ⟨(some 13), none, (.mv (.t 5))⟩, ⟨(some 14), none, (.indexAddr 2 (.t 12) (.t 13))⟩, ⟨(some 15), none, (.fieldAddr 0 (.t 14))⟩, ⟨(some 16), none, (.load none (.t 15))⟩, ⟨(some 17), none, (.mv (.t 1))⟩, ⟨(some 18), none, (.bin .neq (.t 16) (.t 17))⟩]) (.cond (.t 18) (.seq (.ops [⟨(some 4), none, (.mv (.c (.t (.int .i64 (-1)))))⟩]) .ret) .skip)) (.seq (.ops [⟨(some 19), none, (.mv (.t 1))⟩, ⟨(some 20), none, (.bin .add (.t 19) (.c (.t (.int .i64 1))))⟩, ⟨(some 1), none, (.mv (.t 20))⟩]) (.seq (.ops [⟨(some 21), none, (.mv (.t 0))⟩, ⟨(some 22), none, (.mv (.t 5))⟩, ⟨(some 23), none, (.indexAddr 2 (.t 21) (.t 22))⟩, ⟨(some 24), none, (.fieldAddr 1 (.t 23))⟩, ⟨(some 25), none, (.load none (.t 24))⟩, ⟨(some 26), none, (.mv (.t 1))⟩, ⟨(some 27), none, (.call (.c (.fn (.func 97) [])) [(.t 25), (.t 26)])⟩, ⟨(some 1), none, (.mv (.t 27))⟩]) (.seq (.ops [⟨(some 28), none, (.mv (.t 1))⟩, ⟨(some 29), none, (.bin .lss (.t 28) (.c (.t (.int .i64 0))))⟩]) (.cond (.t 29) (.seq (.ops [⟨(some 4), none, (.mv (.c (.t (.int .i64 (-1)))))⟩]) .ret) .skip)))))
theorem row_heldRecAckS : RowHeld Try.prog markTxt 2 c_heldRecAckS shRecAck := by
  intro b Q e σ i rows row k g0 g5 g1 hr hT hz hk hlt hQ
  obtain ⟨n0, n1, rfl, b0, b1⟩ := isRecAck hT
  rw [sizeRecAck] at hz
  have hm : T.mkL markTxt k [.int .i64 n0, n1] = ([.int .i64 ((k : Nat) : Int), (T.mk markTxt (k + 1) n1).1], (T.mk markTxt (k + 1) n1).2) := by simp only [mkL_cons, mkL_nil, mkc_int, mkc_bool, mkc_str, Nat.add_assoc, Nat.reduceAdd]
  rw [hm] at hlt hQ hr
  simp only at hlt hQ hr
  clear hm
  have l1 := mk_le (mt := markTxt) (k := (k + 1)) (t := n1)
  have w0 : IntKind.i64.wrap (((k : Nat) : Int) + 1) = (((k + 1) : Nat) : Int) := i64_succ (k := k) (by omega)
  have three : ((3 : Int) ≠ 0) = True := by simp
  simp -implicitDefEqProofs only [c_heldRecAckS, g0, g5, g1, hr, nat_nn, three, nat_neg, ne_self, beq_self_eq_true, Nat.zero_le, w0, S0, S1, S2, S3, S4, S5, S6, S7, S8, S9, S10, S11, S12, S13, S14, S15, opv, opvs, eget, env0, setD, lenStr, lenSl, isNilP, isNilS, putAt, if_true, if_false, reduceCtorEq, Nat.reduceLeDiff, Nat.reduceEqDiff, Nat.reduceSub, Nat.reduceMul, Nat.reduceAdd]
  refine call_pure (heldIntS n1 (k + 1) _ b1 (by omega) (by omega) (by omega)) ?_
  simp -implicitDefEqProofs only [g0, g5, g1, hr, nat_nn, three, nat_neg, ne_self, beq_self_eq_true, Nat.zero_le, w0, S0, S1, S2, S3, S4, S5, S6, S7, S8, S9, S10, S11, S12, S13, S14, S15, opv, opvs, eget, env0, setD, lenStr, lenSl, isNilP, isNilS, putAt, if_true, if_false, reduceCtorEq, Nat.reduceLeDiff, Nat.reduceEqDiff, Nat.reduceSub, Nat.reduceMul, Nat.reduceAdd]
  refine hQ _ ?_ ?_ ?_ <;> simp -implicitDefEqProofs only [g0, g5, g1, S0, S1, S2, S3, S4, S5, S6, S7, S8, S9, S10, S11, S12, S13, S14, S15, opv, opvs, eget, env0, setD, lenStr, lenSl, isNilP, isNilS, putAt, if_true, if_false, reduceCtorEq, Nat.reduceLeDiff, Nat.reduceEqDiff, Nat.reduceSub, Nat.reduceMul, Nat.reduceAdd]
theorem i_heldRecAckS : Is Try.prog 98 31 [(.tmp 4)] (tMarkS 30 c_heldRecAckS) := ⟨_, _, Try.func98, by decide +kernel, rfl, rfl, by kernel_rfl, rfl⟩
theorem heldRecAckS : HeldOk Try.prog markTxt 98 (.sl 2 shRecAck) := heldS_ok rfl (by decide) (by decide) i_heldRecAckS row_heldRecAckS
def c_markRecFixS : C := (.seq (.ops [⟨(some 12), none, (.mv (.t 0))⟩, ⟨(some 13), none, (.mv (.t 5))⟩, ⟨(some 14), none, (.mv (.t 1))⟩, ⟨(some 15), none, (.indexAddr 2 (.t 12) (.t 13))⟩, ⟨(some 16), none, (.fieldAddr 0 (.t 15))⟩, ⟨none, none, (.store 1 (.t 16) (.t 14))⟩]) (.seq (.ops [⟨(some 17), none, (.mv (.t 1))⟩, ⟨(some 18), none, (.bin .add (.t 17) (.c (.t (.int .i64 1))))⟩, ⟨(some 1), none, (.mv (.t 18))⟩]) (.seq (.ops [⟨(some 19), none, (.mv (.t 0))⟩, ⟨(some 20), none, (.mv (.t 5))⟩, ⟨(some 21), none, (.mv (.t 1))⟩, ⟨(some 22), none, (.call (.c (.fn (.func 85) [])) [(.t 21)])⟩, ⟨(some 23), none, (.indexAddr 2 (.t 19) (.t 20))⟩, ⟨(some 24), none, (.fieldAddr 1 (.t 23))⟩, ⟨none, none, (.store 1 (.t 24) (.t 22))⟩]) (.ops [⟨(some 25), none, (.mv (.t 1))⟩, ⟨(some 26), none, (.bin .add (.t 25) (.c (.t (.int .i64 1))))⟩, ⟨(some 1), none, (.mv (.t 26))⟩]))))
theorem row_markRecFixS : RowMark Try.prog markTxt 2 c_markRecFixS shRecFix := by
  intro b Q e σ id len i rs row r ji k g0 g5 g1 hl hi hs hr hT hz hO hnd hk hlt hQ
  obtain ⟨n0, n1, rfl, b0, b1⟩ := isRecFix hT
  rw [sizeRecFix] at hz
  have hm : T.mkL markTxt k [.int .i64 n0, .str n1] = ([.int .i64 ((k : Nat) : Int), .str (markTxt (k + 1))], (k + 2)) := by simp only [mkL_cons, mkL_nil, mkc_int, mkc_bool, mkc_str, Nat.add_assoc, Nat.reduceAdd]
  rw [hm] at hlt hQ
  simp only at hlt hQ
  clear hm
  obtain ⟨_, rfl, hO0⟩ := oc_int hO
  clear hO
  obtain ⟨_, rfl, hO1⟩ := oc_str hO0
  clear hO0
  obtain ⟨rfl, rfl⟩ := oc_nil hO1
  have w0 : IntKind.i64.wrap (((k : Nat) : Int) + 1) = (((k + 1) : Nat) : Int) := i64_succ (k := k) (by omega)
  have w1 : IntKind.i64.wrap ((((k + 1) : Nat) : Int) + 1) = (((k + 2) : Nat) : Int) := i64_succ (k := (k + 1)) (by omega)
  have hidl := (List.getElem?_eq_some_iff.1 hs).1
  have s0 : ∀ o, (σ.set id o)[id]? = some o := fun o => by simp [hidl]
  have rr : ∀ x, (rs.set i x)[i]? = some x := fun x => by simp [hl, hi]
  have hi' : ((i : Nat) : Int) < ((len : Nat) : Int) := by omega
  have three : ((3 : Int) ≠ 0) = True := by simp
  simp -implicitDefEqProofs only [c_markRecFixS, g0, g5, g1, hs, hr, hl, hi', nat_nn, s0, rr, three, Nat.zero_le, w0, w1, S0, S1, S2, S3, S4, S5, S6, S7, S8, S9, S10, S11, S12, S13, S14, S15, opv, opvs, eget, env0, setD, lenStr, lenSl, isNilP, isNilS, putAt, if_true, if_false, reduceCtorEq, Nat.reduceLeDiff, Nat.reduceEqDiff, Nat.reduceSub, Nat.reduceMul, Nat.reduceAdd]
  refine call_pure (textOk (k + 1) _ (by omega) (by omega)) ?_
  simp -implicitDefEqProofs only [g0, g5, g1, hs, hr, hl, hi', nat_nn, s0, rr, three, Nat.zero_le, w0, w1, S0, S1, S2, S3, S4, S5, S6, S7, S8, S9, S10, S11, S12, S13, S14, S15, opv, opvs, eget, env0, setD, lenStr, lenSl, isNilP, isNilS, putAt, if_true, if_false, reduceCtorEq, Nat.reduceLeDiff, Nat.reduceEqDiff, Nat.reduceSub, Nat.reduceMul, Nat.reduceAdd]
  refine hQ _ _ [.t (.int .i64 ((k : Nat) : Int)), .t (.str (markTxt (k + 1)))] ?_ ?_ ?_ ?_ ?_ ?_ ?_
  · simp -implicitDefEqProofs only [g0, g5, g1, S0, S1, S2, S3, S4, S5, S6, S7, S8, S9, S10, S11, S12, S13, S14, S15, opv, opvs, eget, env0, setD, lenStr, lenSl, isNilP, isNilS, putAt, if_true, if_false, reduceCtorEq, Nat.reduceLeDiff, Nat.reduceEqDiff, Nat.reduceSub, Nat.reduceMul, Nat.reduceAdd]
  · simp -implicitDefEqProofs only [g0, g5, g1, S0, S1, S2, S3, S4, S5, S6, S7, S8, S9, S10, S11, S12, S13, S14, S15, opv, opvs, eget, env0, setD, lenStr, lenSl, isNilP, isNilS, putAt, if_true, if_false, reduceCtorEq, Nat.reduceLeDiff, Nat.reduceEqDiff, Nat.reduceSub, Nat.reduceMul, Nat.reduceAdd]
  · simp -implicitDefEqProofs only [g0, g5, g1, S0, S1, S2, S3, S4, S5, S6, S7, S8, S9, S10, S11, S12, S13, S14, S15, opv, opvs, eget, env0, setD, lenStr, lenSl, isNilP, isNilS, putAt, if_true, if_false, reduceCtorEq, Nat.reduceLeDiff, Nat.reduceEqDiff, Nat.reduceSub, Nat.reduceMul, Nat.reduceAdd]
  · exact s0 _
  · exact (OwnL.int (OwnL.str OwnL.nil0))
  · simp only [List.length_set]
    omega
  · intro j hj hn
    simp only [List.mem_cons, List.mem_append, List.not_mem_nil, not_or, not_false_eq_true, and_true] at hn
    rw [List.getElem?_set_ne (fun e => hn e.symm)]
theorem i_markRecFixS : Is Try.prog 116 28 [(.tmp 4)] (tMarkS 27 c_markRecFixS) := ⟨_, _, Try.func116, by decide +kernel, rfl, rfl, by kernel_rfl, rfl⟩
theorem markRecFixS : MarkOk Try.prog markTxt 116 (.sl 2 shRecFix) := markS_ok rfl (by decide) (by decide) i_markRecFixS row_markRecFixS
def c_heldRecFixS : C := (.seq (.seq (.ops [⟨(some 12), none, (.mv (.t 0))⟩, ⟨(some 13), none, (.mv (.t 5))⟩, ⟨(some 14), none, (.indexAddr 2 (.t 12) (.t 13))⟩, ⟨(some 15), none, (.fieldAddr 0 (.t 14))⟩, ⟨(some 16), none, (.load none (.t 15))⟩, ⟨(some 17), none, (.mv (.t 1))⟩, ⟨(some 18), none, (.bin .neq (.t 16) (.t 17))⟩]) (.cond (.t 18) (.seq (.ops [⟨(some 4), none, (.mv (.c (.t (.int .i64 (-1)))))⟩]) .ret) .skip)) (.seq (.ops [⟨(some 19), none, (.mv (.t 1))⟩, ⟨(some 20), none, (.bin .add (.t 19) (.c (.t (.int .i64 1))))⟩, ⟨(some 1), none, (.mv (.t 20))⟩]) (.seq (.seq (.drawn [(.mk 0 false ⟨(some 21), none, (.mv (.t 0))⟩), (.mk 1 false ⟨(some 22), none, (.mv (.t 5))⟩), (.mk 2 false ⟨(some 23), none, (.indexAddr 2 (.t 21) (.t 22))⟩), (.mk 3 false ⟨(some 24), none, (.fieldAddr 1 (.t 23))⟩), (.mk 4 false ⟨(some 25), none, (.load none (.t 24))⟩), (.mk 5 false ⟨(some 26), none, (.mv (.t 1))⟩), (.mk 6 true ⟨(some 27), none, (.call (.c (.fn (.func 85) [])) [(.t 26)])⟩), (.mk 7 false ⟨(some 28), none, (.bin .neq (.t 25) (.t 27))⟩)]) (.cond (.t 28) (.seq (.ops [⟨(some 4), none, (.mv (.c (.t (.int .i64 (-1)))))⟩]) .ret) .skip)) (.ops [⟨(some 29), none, (.mv (.t 1))⟩, ⟨(some 30), none, (.bin .add (.t 29) (.c (.t (.int .i64 1))))⟩, ⟨(some 1), none, (.mv (.t 30))⟩]))))
theorem row_heldRecFixS : RowHeld Try.prog markTxt 2 c_heldRecFixS shRecFix := by
  intro b Q e σ i rows row k g0 g5 g1 hr hT hz hk hlt hQ
  obtain ⟨n0, n1, rfl, b0, b1⟩ := isRecFix hT
  rw [sizeRecFix] at hz
  have hm : T.mkL markTxt k [.int .i64 n0, .str n1] = ([.int .i64 ((k : Nat) : Int), .str (markTxt (k + 1))], (k + 2)) := by simp only [mkL_cons, mkL_nil, mkc_int, mkc_bool, mkc_str, Nat.add_assoc, Nat.reduceAdd]
  rw [hm] at hlt hQ hr
  simp only at hlt hQ hr
  clear hm
  have w0 : IntKind.i64.wrap (((k : Nat) : Int) + 1) = (((k + 1) : Nat) : Int) := i64_succ (k := k) (by omega)
  have w1 : IntKind.i64.wrap ((((k + 1) : Nat) : Int) + 1) = (((k + 2) : Nat) : Int) := i64_succ (k := (k + 1)) (by omega)
  have three : ((3 : Int) ≠ 0) = True := by simp
  simp -implicitDefEqProofs only [c_heldRecFixS, g0, g5, g1, hr, nat_nn, three, nat_neg, ne_self, beq_self_eq_true, Nat.zero_le, w0, w1, S0, S1, S2, S3, S4, S5, S6, S7, S8, S9, S10, S11, S12, S13, S14, S15, opv, opvs, eget, env0, setD, lenStr, lenSl, isNilP, isNilS, putAt, if_true, if_false, reduceCtorEq, Nat.reduceLeDiff, Nat.reduceEqDiff, Nat.reduceSub, Nat.reduceMul, Nat.reduceAdd]
  refine call_pure (textOk (k + 1) _ (by omega) (by omega)) ?_
  simp -implicitDefEqProofs only [g0, g5, g1, hr, nat_nn, three, nat_neg, ne_self, beq_self_eq_true, Nat.zero_le, w0, w1, S0, S1, S2, S3, S4, S5, S6, S7, S8, S9, S10, S11, S12, S13, S14, S15, opv, opvs, eget, env0, setD, lenStr, lenSl, isNilP, isNilS, putAt, if_true, if_false, reduceCtorEq, Nat.reduceLeDiff, Nat.reduceEqDiff, Nat.reduceSub, Nat.reduceMul, Nat.reduceAdd]
  refine hQ _ ?_ ?_ ?_ <;> simp -implicitDefEqProofs only [g0, g5, g1, S0, S1, S2, S3, S4, S5, S6, S7, S8, S9, S10, S11, S12, S13, S14, S15, opv, opvs, eget, env0, setD, lenStr, lenSl, isNilP, isNilS, putAt, if_true, if_false, reduceCtorEq, Nat.reduceLeDiff, Nat.reduceEqDiff, Nat.reduceSub, Nat.reduceMul, Nat.reduceAdd]
theorem i_heldRecFixS : Is Try.prog 118 32 [(.tmp 4)] (tMarkS 31 c_heldRecFixS) := ⟨_, _, Try.func118, by decide +kernel, rfl, rfl, by kernel_rfl, rfl⟩
theorem heldRecFixS : HeldOk Try.prog markTxt 118 (.sl 2 shRecFix) := heldS_ok rfl (by decide) (by decide) i_heldRecFixS row_heldRecFixS
end Go.Proofs.Ytleilaipdhmgeaa.W

end


section
open Go Go.Ab
set_option maxHeartbeats 4000000
set_option maxRecDepth 20000
namespace Go.Proofs.Ytleilaipdhmgeaa.W
def c_laws_markRecorder : C := (.seq (.ops [⟨(some 2), none, (.box (.t 0))⟩, ⟨(some 4), none, (.mv (.c (.t (.int .i64 0))))⟩]) (.seq (.ops [⟨(some 5), none, (.fieldAddr 3 (.t 2))⟩, ⟨(some 6), none, (.load (some 3) (.t 5))⟩, ⟨(some 7), none, (.mv (.t 1))⟩, ⟨(some 8), none, (.call (.c (.fn (.func 91) [])) [(.t 6), (.t 7)])⟩, ⟨(some 1), none, (.mv (.t 8))⟩]) (.seq (.ops [⟨(some 9), none, (.fieldAddr 6 (.t 2))⟩, ⟨(some 10), none, (.load (some 3) (.t 9))⟩, ⟨(some 11), none, (.mv (.t 1))⟩, ⟨(some 12), none, (.call (.c (.fn (.func 91) [])) [(.t 10), (.t 11)])⟩, ⟨(some 1), none, (.mv (.t 12))⟩]) (.seq (.ops [⟨(some 13), none, (.fieldAddr 9 (.t 2))⟩, ⟨(some 14), none, (.load none (.t 13))⟩, ⟨(some 15), none, (.mv (.t 1))⟩, ⟨(some 16), none, (.call (.c (.fn (.func 92) [])) [(.t 14), (.t 15)])⟩, ⟨(some 1), none, (.mv (.t 16))⟩]) (.seq (.ops [⟨(some 17), none, (.fieldAddr 10 (.t 2))⟩, ⟨(some 18), none, (.load none (.t 17))⟩, ⟨(some 19), none, (.mv (.t 1))⟩, ⟨(some 20), none, (.call (.c (.fn (.func 55) [])) [(.t 18), (.t 19)])⟩, ⟨(some 1), none, (.mv (.t 20))⟩]) (.seq (.ops [⟨(some 21), none, (.fieldAddr 14 (.t 2))⟩, ⟨(some 22), none, (.load none (.t 21))⟩, ⟨(some 23), none, (.mv (.t 1))⟩, ⟨(some 24), none, (.call (.c (.fn (.func 93) [])) [(.t 22), (.t 23)])⟩, ⟨(some 1), none, (.mv (.t 24))⟩]) (.seq (.ops [⟨(some 25), none, (.fieldAddr 15 (.t 2))⟩, ⟨(some 26), none, (.load none (.t 25))⟩, ⟨(some 27), none, (.mv (.t 1))⟩, ⟨(some 28), none, (.call (.c (.fn (.func 26) [])) [(.t 26), (.t 27)])⟩, ⟨(some 1), none, (.mv (.t 28))⟩]) (.seq (.ops [⟨(some 29), none, (.fieldAddr 16 (.t 2))⟩, ⟨(some 30), none, (.load none (.t 29))⟩, ⟨(some 31), none, (.mv (.t 1))⟩, ⟨(some 32), none, (.call (.c (.fn (.func 94) [])) [(.t 30), (.t 31)])⟩, ⟨(some 1), none, (.mv (.t 32))⟩]) (.seq (.ops [⟨(some 33), none, (.mv (.t 1))⟩, ⟨(some 4), none, (.mv (.t 33))⟩]) .ret)))))))))
theorem k_laws_markRecorder : comp Try.prog 34 (Try.f41.body.getD .skip) = some c_laws_markRecorder := by kernel_rfl

theorem markRecorder : MarkLOk Try.prog markTxt 41 shRecorder := by
  rintro ts us is k σ hT hz hO hnd hk hlt
  obtain ⟨n0, n1, n2, n3, n4, n5, n6, n7, n8, n9, n10, n11, n12, n13, n14, n15, n16, n17, rfl, b0, b1, b3, b4, b5, b6, b7, b8, b9, b10, b13, b14, b15, b16, b17⟩ := isRecorder hT
  rw [sizeRecorder] at hz
  have hm : T.mkVL markTxt k [.int .i64 n0, .int .i64 n1, .bool n2, .int .i64 n3, .int .i64 n4, n5, .int .i64 n6, .int .i64 n7, n8, n9, n10, .bool n11, .bool n12, .int .i64 n13, n14, n15, n16, .int .i64 n17] = ([.int .i64 n0, .int .i64 n1, .bool n2, .int .i64 n3, .int .i64 n4, (T.mk markTxt k n5).1, .int .i64 n6, .int .i64 n7, (T.mk markTxt (T.mk markTxt k n5).2 n8).1, (T.mk markTxt (T.mk markTxt (T.mk markTxt k n5).2 n8).2 n9).1, (T.mk markTxt (T.mk markTxt (T.mk markTxt (T.mk markTxt k n5).2 n8).2 n9).2 n10).1, .bool n11, .bool n12, .int .i64 n13, (T.mk markTxt (T.mk markTxt (T.mk markTxt (T.mk markTxt (T.mk markTxt k n5).2 n8).2 n9).2 n10).2 n14).1, (T.mk markTxt (T.mk markTxt (T.mk markTxt (T.mk markTxt (T.mk markTxt (T.mk markTxt k n5).2 n8).2 n9).2 n10).2 n14).2 n15).1, (T.mk markTxt (T.mk markTxt (T.mk markTxt (T.mk markTxt (T.mk markTxt (T.mk markTxt (T.mk markTxt k n5).2 n8).2 n9).2 n10).2 n14).2 n15).2 n16).1, .int .i64 n17], (T.mk markTxt (T.mk markTxt (T.mk markTxt (T.mk markTxt (T.mk markTxt (T.mk markTxt (T.mk markTxt k n5).2 n8).2 n9).2 n10).2 n14).2 n15).2 n16).2) := by simp only [mkVL_cons, mkVL_nil, mkV_int, mkV_bool, mkV_str, mkV_sl b5, mkV_sl b8, mkV_sl b9, mkV_sl b10, mkV_sl b14, mkV_sl b15, mkV_sl b16]
  rw [hm] at hlt ⊢
  simp only at hlt ⊢
  clear hm
  obtain ⟨_, rfl, hO0⟩ := oc_int hO
  clear hO
  obtain ⟨_, rfl, hO1⟩ := oc_int hO0
  clear hO0
  obtain ⟨_, rfl, hO2⟩ := oc_bool hO1
  clear hO1
  obtain ⟨_, rfl, hO3⟩ := oc_int hO2
  clear hO2
  obtain ⟨_, rfl, hO4⟩ := oc_int hO3
  clear hO3
  obtain ⟨u5, _, j5, _, rfl, rfl, o5, hO5⟩ := oc_lst hO4
  clear hO4
  obtain ⟨_, rfl, hO6⟩ := oc_int hO5
  clear hO5
  obtain ⟨_, rfl, hO7⟩ := oc_int hO6
  clear hO6
  obtain ⟨u8, _, j8, _, rfl, rfl, o8, hO8⟩ := oc_lst hO7
  clear hO7
  obtain ⟨u9, _, j9, _, rfl, rfl, o9, hO9⟩ := oc_lst hO8
  clear hO8
  obtain ⟨u10, _, j10, _, rfl, rfl, o10, hO10⟩ := oc_lst hO9
  clear hO9
  obtain ⟨_, rfl, hO11⟩ := oc_bool hO10
  clear hO10
  obtain ⟨_, rfl, hO12⟩ := oc_bool hO11
  clear hO11
  obtain ⟨_, rfl, hO13⟩ := oc_int hO12
  clear hO12
  obtain ⟨u14, _, j14, _, rfl, rfl, o14, hO14⟩ := oc_lst hO13
  clear hO13
  obtain ⟨u15, _, j15, _, rfl, rfl, o15, hO15⟩ := oc_lst hO14
  clear hO14
  obtain ⟨u16, _, j16, _, rfl, rfl, o16, hO16⟩ := oc_lst hO15
  clear hO15
  obtain ⟨_, rfl, hO17⟩ := oc_int hO16
  clear hO16
  obtain ⟨rfl, rfl⟩ := oc_nil hO17
  have l5 := mk_le (mt := markTxt) (k := k) (t := n5)
  have l8 := mk_le (mt := markTxt) (k := (T.mk markTxt k n5).2) (t := n8)
  have l9 := mk_le (mt := markTxt) (k := (T.mk markTxt (T.mk markTxt k n5).2 n8).2) (t := n9)
  have l10 := mk_le (mt := markTxt) (k := (T.mk markTxt (T.mk markTxt (T.mk markTxt k n5).2 n8).2 n9).2) (t := n10)
  have l14 := mk_le (mt := markTxt) (k := (T.mk markTxt (T.mk markTxt (T.mk markTxt (T.mk markTxt k n5).2 n8).2 n9).2 n10).2) (t := n14)
  have l15 := mk_le (mt := markTxt) (k := (T.mk markTxt (T.mk markTxt (T.mk markTxt (T.mk markTxt (T.mk markTxt k n5).2 n8).2 n9).2 n10).2 n14).2) (t := n15)
  have l16 := mk_le (mt := markTxt) (k := (T.mk markTxt (T.mk markTxt (T.mk markTxt (T.mk markTxt (T.mk markTxt (T.mk markTxt k n5).2 n8).2 n9).2 n10).2 n14).2 n15).2) (t := n16)
  refine acalls_of Try.func41 (by decide +kernel) (code := Try.f41.body.getD .skip) (n := 34) (c := c_laws_markRecorder) (rs := [(.tmp 4)]) rfl rfl k_laws_markRecorder (by kernel_rfl) (by simp) (fun hσ => ?_)
  obtain ⟨nd5, rest5, dj5, dk5⟩ := nd_app hnd
  obtain ⟨nd8, rest8, dj8, dk8⟩ := nd_app rest5
  obtain ⟨nd9, rest9, dj9, dk9⟩ := nd_app rest8
  obtain ⟨nd10, rest10, dj10, dk10⟩ := nd_app rest9
  obtain ⟨nd14, rest14, dj14, dk14⟩ := nd_app rest10
  obtain ⟨nd15, rest15, dj15, dk15⟩ := nd_app rest14
  obtain ⟨nd16, rest16, dj16, dk16⟩ := nd_app rest15
  have U3 : OwnL σ [.int .i64 n3, .int .i64 n4, n5] [.t (.int .i64 n3), .t (.int .i64 n4), u5] (j5 ++ []) := (OwnL.int (OwnL.int (OwnL.lst o5 OwnL.nil0)))
  have N3 : ((j5 ++ [])).Nodup := by rw [List.append_nil]; exact nd5
  have lt3 := U3.lt
  have U6 : OwnL σ [.int .i64 n6, .int .i64 n7, n8] [.t (.int .i64 n6), .t (.int .i64 n7), u8] (j8 ++ []) := (OwnL.int (OwnL.int (OwnL.lst o8 OwnL.nil0)))
  have N6 : ((j8 ++ [])).Nodup := by rw [List.append_nil]; exact nd8
  have lt6 := U6.lt
  have U9 : Own σ n9 u9 j9 := o9
  have N9 := nd9
  have lt9 := U9.lt
  have U10 : Own σ n10 u10 j10 := o10
  have N10 := nd10
  have lt10 := U10.lt
  have U14 : Own σ n14 u14 j14 := o14
  have N14 := nd14
  have lt14 := U14.lt
  have U15 : Own σ n15 u15 j15 := o15
  have N15 := nd15
  have lt15 := U15.lt
  have U16 : Own σ n16 u16 j16 := o16
  have N16 := nd16
  have lt16 := U16.lt
  simp -implicitDefEqProofs only [c_laws_markRecorder, one_cells o5.one, o5.one, one_cells o8.one, o8.one, one_cells o9.one, o9.one, one_cells o10.one, o10.one, one_cells o14.one, o14.one, one_cells o15.one, o15.one, one_cells o16.one, o16.one, S0, S1, S2, S3, S4, S5, S6, S7, S8, S9, S10, S11, S12, S13, S14, S15, opv, opvs, eget, env0, setD, lenStr, lenSl, isNilP, isNilS, putAt, if_true, if_false, reduceCtorEq, Nat.reduceLeDiff, Nat.reduceEqDiff, Nat.reduceSub, Nat.reduceMul, Nat.reduceAdd]
  have hm3 : T.mkVL markTxt k [.int .i64 n3, .int .i64 n4, n5] = ([.int .i64 n3, .int .i64 n4, (T.mk markTxt k n5).1], (T.mk markTxt k n5).2) := by simp only [mkVL_cons, mkVL_nil, mkV_int, mkV_bool, mkV_str, mkV_sl b5]
  refine call_by (by rw [List.append_nil]; exact markRecDisk _ _ _ k _ (mkRecDisk b3 b4 b5) (by rw [sizeRecDisk]; omega) (U3.pre (List.prefix_append _ _)) N3 (by omega) (by rw [hm3]; simp only; omega)) ?_
  rw [hm3]
  rintro r' σ3 ⟨rfl, q3, y3, f3⟩
  have eb3 := f3 σ.length (by first | simp | (simp only [List.length_append, List.length_cons, List.length_nil] at *; omega)) (fun h => Nat.lt_irrefl _ (lt3 _ h))
  rw [q_app_get0] at eb3
  simp only [List.getElem?_cons_zero] at eb3
  simp -implicitDefEqProofs only [eb3, one_cells o5.one, o5.one, one_cells o8.one, o8.one, one_cells o9.one, o9.one, one_cells o10.one, o10.one, one_cells o14.one, o14.one, one_cells o15.one, o15.one, one_cells o16.one, o16.one, S0, S1, S2, S3, S4, S5, S6, S7, S8, S9, S10, S11, S12, S13, S14, S15, opv, opvs, eget, env0, setD, lenStr, lenSl, isNilP, isNilS, putAt, if_true, if_false, reduceCtorEq, Nat.reduceLeDiff, Nat.reduceEqDiff, Nat.reduceSub, Nat.reduceMul, Nat.reduceAdd]
  have hm6 : T.mkVL markTxt (T.mk markTxt k n5).2 [.int .i64 n6, .int .i64 n7, n8] = ([.int .i64 n6, .int .i64 n7, (T.mk markTxt (T.mk markTxt k n5).2 n8).1], (T.mk markTxt (T.mk markTxt k n5).2 n8).2) := by simp only [mkVL_cons, mkVL_nil, mkV_int, mkV_bool, mkV_str, mkV_sl b8]
  refine call_by (by rw [List.append_nil]; exact markRecDisk _ _ _ (T.mk markTxt k n5).2 _ (mkRecDisk b6 b7 b8) (by rw [sizeRecDisk]; omega) ((U6.pre (List.prefix_append _ _)).other f3 (by intro x hx h; (try simp only [List.mem_append, List.not_mem_nil, or_false] at hx); (try simp only [List.mem_append, List.not_mem_nil, or_false] at h); exact dj5 x h (by simp [hx]))) N6 (by omega) (by rw [hm6]; simp only; omega)) ?_
  rw [hm6]
  rintro r' σ6 ⟨rfl, q6, y6, f6⟩
  have eb6 := f6 σ.length (by first | simp | (simp only [List.length_append, List.length_cons, List.length_nil] at *; omega)) (fun h => Nat.lt_irrefl _ (lt6 _ h))
  rw [eb3] at eb6
  simp -implicitDefEqProofs only [eb6, eb3, one_cells o5.one, o5.one, one_cells o8.one, o8.one, one_cells o9.one, o9.one, one_cells o10.one, o10.one, one_cells o14.one, o14.one, one_cells o15.one, o15.one, one_cells o16.one, o16.one, S0, S1, S2, S3, S4, S5, S6, S7, S8, S9, S10, S11, S12, S13, S14, S15, opv, opvs, eget, env0, setD, lenStr, lenSl, isNilP, isNilS, putAt, if_true, if_false, reduceCtorEq, Nat.reduceLeDiff, Nat.reduceEqDiff, Nat.reduceSub, Nat.reduceMul, Nat.reduceAdd]
  refine call_by (by rw [List.append_nil]; exact markRecMessageS n9 u9 j9 (T.mk markTxt (T.mk markTxt k n5).2 n8).2 _ b9 (by omega) (((U9.pre (List.prefix_append _ _)).other f3 (by intro x hx h; (try simp only [List.mem_append, List.not_mem_nil, or_false] at hx); (try simp only [List.mem_append, List.not_mem_nil, or_false] at h); exact dj5 x h (by simp [hx]))).other f6 (by intro x hx h; (try simp only [List.mem_append, List.not_mem_nil, or_false] at hx); (try simp only [List.mem_append, List.not_mem_nil, or_false] at h); exact dj8 x h (by simp [hx]))) N9 (by omega) (by omega)) ?_
  rintro r' σ9 ⟨rfl, q9, y9, f9⟩
  have eb9 := f9 σ.length (by first | simp | (simp only [List.length_append, List.length_cons, List.length_nil] at *; omega)) (fun h => Nat.lt_irrefl _ (lt9 _ h))
  rw [eb6] at eb9
  simp -implicitDefEqProofs only [eb9, eb6, eb3, one_cells o5.one, o5.one, one_cells o8.one, o8.one, one_cells o9.one, o9.one, one_cells o10.one, o10.one, one_cells o14.one, o14.one, one_cells o15.one, o15.one, one_cells o16.one, o16.one, S0, S1, S2, S3, S4, S5, S6, S7, S8, S9, S10, S11, S12, S13, S14, S15, opv, opvs, eget, env0, setD, lenStr, lenSl, isNilP, isNilS, putAt, if_true, if_false, reduceCtorEq, Nat.reduceLeDiff, Nat.reduceEqDiff, Nat.reduceSub, Nat.reduceMul, Nat.reduceAdd]
  refine call_by (by rw [List.append_nil]; exact markStringS n10 u10 j10 (T.mk markTxt (T.mk markTxt (T.mk markTxt k n5).2 n8).2 n9).2 _ b10 (by omega) ((((U10.pre (List.prefix_append _ _)).other f3 (by intro x hx h; (try simp only [List.mem_append, List.not_mem_nil, or_false] at hx); (try simp only [List.mem_append, List.not_mem_nil, or_false] at h); exact dj5 x h (by simp [hx]))).other f6 (by intro x hx h; (try simp only [List.mem_append, List.not_mem_nil, or_false] at hx); (try simp only [List.mem_append, List.not_mem_nil, or_false] at h); exact dj8 x h (by simp [hx]))).other f9 (by intro x hx h; (try simp only [List.mem_append, List.not_mem_nil, or_false] at hx); (try simp only [List.mem_append, List.not_mem_nil, or_false] at h); exact dj9 x h (by simp [hx]))) N10 (by omega) (by omega)) ?_
  rintro r' σ10 ⟨rfl, q10, y10, f10⟩
  have eb10 := f10 σ.length (by first | simp | (simp only [List.length_append, List.length_cons, List.length_nil] at *; omega)) (fun h => Nat.lt_irrefl _ (lt10 _ h))
  rw [eb9] at eb10
  simp -implicitDefEqProofs only [eb10, eb9, eb6, eb3, one_cells o5.one, o5.one, one_cells o8.one, o8.one, one_cells o9.one, o9.one, one_cells o10.one, o10.one, one_cells o14.one, o14.one, one_cells o15.one, o15.one, one_cells o16.one, o16.one, S0, S1, S2, S3, S4, S5, S6, S7, S8, S9, S10, S11, S12, S13, S14, S15, opv, opvs, eget, env0, setD, lenStr, lenSl, isNilP, isNilS, putAt, if_true, if_false, reduceCtorEq, Nat.reduceLeDiff, Nat.reduceEqDiff, Nat.reduceSub, Nat.reduceMul, Nat.reduceAdd]
  refine call_by (by rw [List.append_nil]; exact markIntS n14 u14 j14 (T.mk markTxt (T.mk markTxt (T.mk markTxt (T.mk markTxt k n5).2 n8).2 n9).2 n10).2 _ b14 (by omega) (((((U14.pre (List.prefix_append _ _)).other f3 (by intro x hx h; (try simp only [List.mem_append, List.not_mem_nil, or_false] at hx); (try simp only [List.mem_append, List.not_mem_nil, or_false] at h); exact dj5 x h (by simp [hx]))).other f6 (by intro x hx h; (try simp only [List.mem_append, List.not_mem_nil, or_false] at hx); (try simp only [List.mem_append, List.not_mem_nil, or_false] at h); exact dj8 x h (by simp [hx]))).other f9 (by intro x hx h; (try simp only [List.mem_append, List.not_mem_nil, or_false] at hx); (try simp only [List.mem_append, List.not_mem_nil, or_false] at h); exact dj9 x h (by simp [hx]))).other f10 (by intro x hx h; (try simp only [List.mem_append, List.not_mem_nil, or_false] at hx); (try simp only [List.mem_append, List.not_mem_nil, or_false] at h); exact dj10 x h (by simp [hx]))) N14 (by omega) (by omega)) ?_
  rintro r' σ14 ⟨rfl, q14, y14, f14⟩
  have eb14 := f14 σ.length (by first | simp | (simp only [List.length_append, List.length_cons, List.length_nil] at *; omega)) (fun h => Nat.lt_irrefl _ (lt14 _ h))
  rw [eb10] at eb14
  simp -implicitDefEqProofs only [eb14, eb10, eb9, eb6, eb3, one_cells o5.one, o5.one, one_cells o8.one, o8.one, one_cells o9.one, o9.one, one_cells o10.one, o10.one, one_cells o14.one, o14.one, one_cells o15.one, o15.one, one_cells o16.one, o16.one, S0, S1, S2, S3, S4, S5, S6, S7, S8, S9, S10, S11, S12, S13, S14, S15, opv, opvs, eget, env0, setD, lenStr, lenSl, isNilP, isNilS, putAt, if_true, if_false, reduceCtorEq, Nat.reduceLeDiff, Nat.reduceEqDiff, Nat.reduceSub, Nat.reduceMul, Nat.reduceAdd]
  refine call_by (by rw [List.append_nil]; exact markRecSlotS n15 u15 j15 (T.mk markTxt (T.mk markTxt (T.mk markTxt (T.mk markTxt (T.mk markTxt k n5).2 n8).2 n9).2 n10).2 n14).2 _ b15 (by omega) ((((((U15.pre (List.prefix_append _ _)).other f3 (by intro x hx h; (try simp only [List.mem_append, List.not_mem_nil, or_false] at hx); (try simp only [List.mem_append, List.not_mem_nil, or_false] at h); exact dj5 x h (by simp [hx]))).other f6 (by intro x hx h; (try simp only [List.mem_append, List.not_mem_nil, or_false] at hx); (try simp only [List.mem_append, List.not_mem_nil, or_false] at h); exact dj8 x h (by simp [hx]))).other f9 (by intro x hx h; (try simp only [List.mem_append, List.not_mem_nil, or_false] at hx); (try simp only [List.mem_append, List.not_mem_nil, or_false] at h); exact dj9 x h (by simp [hx]))).other f10 (by intro x hx h; (try simp only [List.mem_append, List.not_mem_nil, or_false] at hx); (try simp only [List.mem_append, List.not_mem_nil, or_false] at h); exact dj10 x h (by simp [hx]))).other f14 (by intro x hx h; (try simp only [List.mem_append, List.not_mem_nil, or_false] at hx); (try simp only [List.mem_append, List.not_mem_nil, or_false] at h); exact dj14 x h (by simp [hx]))) N15 (by omega) (by omega)) ?_
  rintro r' σ15 ⟨rfl, q15, y15, f15⟩
  have eb15 := f15 σ.length (by first | simp | (simp only [List.length_append, List.length_cons, List.length_nil] at *; omega)) (fun h => Nat.lt_irrefl _ (lt15 _ h))
  rw [eb14] at eb15
  simp -implicitDefEqProofs only [eb15, eb14, eb10, eb9, eb6, eb3, one_cells o5.one, o5.one, one_cells o8.one, o8.one, one_cells o9.one, o9.one, one_cells o10.one, o10.one, one_cells o14.one, o14.one, one_cells o15.one, o15.one, one_cells o16.one, o16.one, S0, S1, S2, S3, S4, S5, S6, S7, S8, S9, S10, S11, S12, S13, S14, S15, opv, opvs, eget, env0, setD, lenStr, lenSl, isNilP, isNilS, putAt, if_true, if_false, reduceCtorEq, Nat.reduceLeDiff, Nat.reduceEqDiff, Nat.reduceSub, Nat.reduceMul, Nat.reduceAdd]
  refine call_by (by rw [List.append_nil]; exact markRecAckS n16 u16 j16 (T.mk markTxt (T.mk markTxt (T.mk markTxt (T.mk markTxt (T.mk markTxt (T.mk markTxt k n5).2 n8).2 n9).2 n10).2 n14).2 n15).2 _ b16 (by omega) (((((((U16.pre (List.prefix_append _ _)).other f3 (by intro x hx h; (try simp only [List.mem_append, List.not_mem_nil, or_false] at hx); (try simp only [List.mem_append, List.not_mem_nil, or_false] at h); exact dj5 x h (by simp [hx]))).other f6 (by intro x hx h; (try simp only [List.mem_append, List.not_mem_nil, or_false] at hx); (try simp only [List.mem_append, List.not_mem_nil, or_false] at h); exact dj8 x h (by simp [hx]))).other f9 (by intro x hx h; (try simp only [List.mem_append, List.not_mem_nil, or_false] at hx); (try simp only [List.mem_append, List.not_mem_nil, or_false] at h); exact dj9 x h (by simp [hx]))).other f10 (by intro x hx h; (try simp only [List.mem_append, List.not_mem_nil, or_false] at hx); (try simp only [List.mem_append, List.not_mem_nil, or_false] at h); exact dj10 x h (by simp [hx]))).other f14 (by intro x hx h; (try simp only [List.mem_append, List.not_mem_nil, or_false] at hx); (try simp only [List.mem_append, List.not_mem_nil, or_false] at h); exact dj14 x h (by simp [hx]))).other f15 (by intro x hx h; (try simp only [List.mem_append, List.not_mem_nil, or_false] at hx); (try simp only [List.mem_append, List.not_mem_nil, or_false] at h); exact dj15 x h (by simp [hx]))) N16 (by omega) (by omega)) ?_
  rintro r' σ16 ⟨rfl, q16, y16, f16⟩
  have eb16 := f16 σ.length (by first | simp | (simp only [List.length_append, List.length_cons, List.length_nil] at *; omega)) (fun h => Nat.lt_irrefl _ (lt16 _ h))
  rw [eb15] at eb16
  simp -implicitDefEqProofs only [eb16, eb15, eb14, eb10, eb9, eb6, eb3, one_cells o5.one, o5.one, one_cells o8.one, o8.one, one_cells o9.one, o9.one, one_cells o10.one, o10.one, one_cells o14.one, o14.one, one_cells o15.one, o15.one, one_cells o16.one, o16.one, S0, S1, S2, S3, S4, S5, S6, S7, S8, S9, S10, S11, S12, S13, S14, S15, opv, opvs, eget, env0, setD, lenStr, lenSl, isNilP, isNilS, putAt, if_true, if_false, reduceCtorEq, Nat.reduceLeDiff, Nat.reduceEqDiff, Nat.reduceSub, Nat.reduceMul, Nat.reduceAdd]
  have hf : OwnL _ [.int .i64 n0, .int .i64 n1, .bool n2, .int .i64 n3, .int .i64 n4, (T.mk markTxt k n5).1, .int .i64 n6, .int .i64 n7, (T.mk markTxt (T.mk markTxt k n5).2 n8).1, (T.mk markTxt (T.mk markTxt (T.mk markTxt k n5).2 n8).2 n9).1, (T.mk markTxt (T.mk markTxt (T.mk markTxt (T.mk markTxt k n5).2 n8).2 n9).2 n10).1, .bool n11, .bool n12, .int .i64 n13, (T.mk markTxt (T.mk markTxt (T.mk markTxt (T.mk markTxt (T.mk markTxt k n5).2 n8).2 n9).2 n10).2 n14).1, (T.mk markTxt (T.mk markTxt (T.mk markTxt (T.mk markTxt (T.mk markTxt (T.mk markTxt k n5).2 n8).2 n9).2 n10).2 n14).2 n15).1, (T.mk markTxt (T.mk markTxt (T.mk markTxt (T.mk markTxt (T.mk markTxt (T.mk markTxt (T.mk markTxt k n5).2 n8).2 n9).2 n10).2 n14).2 n15).2 n16).1, .int .i64 n17] [.t (.int .i64 n0), .t (.int .i64 n1), .t (.bool n2), .t (.int .i64 n3), .t (.int .i64 n4), u5, .t (.int .i64 n6), .t (.int .i64 n7), u8, u9, u10, .t (.bool n11), .t (.bool n12), .t (.int .i64 n13), u14, u15, u16, .t (.int .i64 n17)] _ := (OwnL.int (OwnL.int (OwnL.bool (own_app3 ((((((q3.other f6 (by intro x hx h; (try simp only [List.mem_append, List.not_mem_nil, or_false] at hx); (try simp only [List.mem_append, List.not_mem_nil, or_false] at h); exact dj5 x hx (by simp [h]))).other f9 (by intro x hx h; (try simp only [List.mem_append, List.not_mem_nil, or_false] at hx); (try simp only [List.mem_append, List.not_mem_nil, or_false] at h); exact dj5 x hx (by simp [h]))).other f10 (by intro x hx h; (try simp only [List.mem_append, List.not_mem_nil, or_false] at hx); (try simp only [List.mem_append, List.not_mem_nil, or_false] at h); exact dj5 x hx (by simp [h]))).other f14 (by intro x hx h; (try simp only [List.mem_append, List.not_mem_nil, or_false] at hx); (try simp only [List.mem_append, List.not_mem_nil, or_false] at h); exact dj5 x hx (by simp [h]))).other f15 (by intro x hx h; (try simp only [List.mem_append, List.not_mem_nil, or_false] at hx); (try simp only [List.mem_append, List.not_mem_nil, or_false] at h); exact dj5 x hx (by simp [h]))).other f16 (by intro x hx h; (try simp only [List.mem_append, List.not_mem_nil, or_false] at hx); (try simp only [List.mem_append, List.not_mem_nil, or_false] at h); exact dj5 x hx (by simp [h]))) (own_app3 (((((q6.other f9 (by intro x hx h; (try simp only [List.mem_append, List.not_mem_nil, or_false] at hx); (try simp only [List.mem_append, List.not_mem_nil, or_false] at h); exact dj8 x hx (by simp [h]))).other f10 (by intro x hx h; (try simp only [List.mem_append, List.not_mem_nil, or_false] at hx); (try simp only [List.mem_append, List.not_mem_nil, or_false] at h); exact dj8 x hx (by simp [h]))).other f14 (by intro x hx h; (try simp only [List.mem_append, List.not_mem_nil, or_false] at hx); (try simp only [List.mem_append, List.not_mem_nil, or_false] at h); exact dj8 x hx (by simp [h]))).other f15 (by intro x hx h; (try simp only [List.mem_append, List.not_mem_nil, or_false] at hx); (try simp only [List.mem_append, List.not_mem_nil, or_false] at h); exact dj8 x hx (by simp [h]))).other f16 (by intro x hx h; (try simp only [List.mem_append, List.not_mem_nil, or_false] at hx); (try simp only [List.mem_append, List.not_mem_nil, or_false] at h); exact dj8 x hx (by simp [h]))) (OwnL.lst ((((q9.other f10 (by intro x hx h; (try simp only [List.mem_append, List.not_mem_nil, or_false] at hx); (try simp only [List.mem_append, List.not_mem_nil, or_false] at h); exact dj9 x hx (by simp [h]))).other f14 (by intro x hx h; (try simp only [List.mem_append, List.not_mem_nil, or_false] at hx); (try simp only [List.mem_append, List.not_mem_nil, or_false] at h); exact dj9 x hx (by simp [h]))).other f15 (by intro x hx h; (try simp only [List.mem_append, List.not_mem_nil, or_false] at hx); (try simp only [List.mem_append, List.not_mem_nil, or_false] at h); exact dj9 x hx (by simp [h]))).other f16 (by intro x hx h; (try simp only [List.mem_append, List.not_mem_nil, or_false] at hx); (try simp only [List.mem_append, List.not_mem_nil, or_false] at h); exact dj9 x hx (by simp [h]))) (OwnL.lst (((q10.other f14 (by intro x hx h; (try simp only [List.mem_append, List.not_mem_nil, or_false] at hx); (try simp only [List.mem_append, List.not_mem_nil, or_false] at h); exact dj10 x hx (by simp [h]))).other f15 (by intro x hx h; (try simp only [List.mem_append, List.not_mem_nil, or_false] at hx); (try simp only [List.mem_append, List.not_mem_nil, or_false] at h); exact dj10 x hx (by simp [h]))).other f16 (by intro x hx h; (try simp only [List.mem_append, List.not_mem_nil, or_false] at hx); (try simp only [List.mem_append, List.not_mem_nil, or_false] at h); exact dj10 x hx (by simp [h]))) (OwnL.bool (OwnL.bool (OwnL.int (OwnL.lst ((q14.other f15 (by intro x hx h; (try simp only [List.mem_append, List.not_mem_nil, or_false] at hx); (try simp only [List.mem_append, List.not_mem_nil, or_false] at h); exact dj14 x hx (by simp [h]))).other f16 (by intro x hx h; (try simp only [List.mem_append, List.not_mem_nil, or_false] at hx); (try simp only [List.mem_append, List.not_mem_nil, or_false] at h); exact dj14 x hx (by simp [h]))) (OwnL.lst (q15.other f16 (by intro x hx h; (try simp only [List.mem_append, List.not_mem_nil, or_false] at hx); (try simp only [List.mem_append, List.not_mem_nil, or_false] at h); exact dj15 x hx (by simp [h]))) (OwnL.lst q16 (OwnL.int OwnL.nil0))))))))))))))
  try simp only [List.append_assoc, List.append_nil, List.nil_append] at hf
  try simp only [List.append_assoc, List.append_nil, List.nil_append]
  simp only [List.length_append, List.length_cons, List.length_nil] at y3 y6 y9 y10 y14 y15 y16
  refine fin_keep (by omega) ⟨by simp [mkRes], hf, by omega, fun j hj hn => ?_⟩
  try simp only [List.mem_append, List.not_mem_nil, not_or, not_false_eq_true, and_true, or_false] at hn
  rw [f16 j (by first | omega | (simp only [List.length_append, List.length_cons, List.length_nil]; omega)) (by first | exact hn | simp [hn])]
  rw [f15 j (by first | omega | (simp only [List.length_append, List.length_cons, List.length_nil]; omega)) (by first | exact hn | simp [hn])]
  rw [f14 j (by first | omega | (simp only [List.length_append, List.length_cons, List.length_nil]; omega)) (by first | exact hn | simp [hn])]
  rw [f10 j (by first | omega | (simp only [List.length_append, List.length_cons, List.length_nil]; omega)) (by first | exact hn | simp [hn])]
  rw [f9 j (by first | omega | (simp only [List.length_append, List.length_cons, List.length_nil]; omega)) (by first | exact hn | simp [hn])]
  rw [f6 j (by first | omega | (simp only [List.length_append, List.length_cons, List.length_nil]; omega)) (by first | exact hn | simp [hn])]
  rw [f3 j (by first | omega | (simp only [List.length_append, List.length_cons, List.length_nil]; omega)) (by first | exact hn | simp [hn])]
  rw [List.getElem?_append_left hj]
def c_laws_heldRecorder : C := (.seq (.ops [⟨(some 2), none, (.box (.t 0))⟩, ⟨(some 4), none, (.mv (.c (.t (.int .i64 0))))⟩]) (.seq (.ops [⟨(some 5), none, (.fieldAddr 3 (.t 2))⟩, ⟨(some 6), none, (.load (some 3) (.t 5))⟩, ⟨(some 7), none, (.mv (.t 1))⟩, ⟨(some 8), none, (.call (.c (.fn (.func 95) [])) [(.t 6), (.t 7)])⟩, ⟨(some 1), none, (.mv (.t 8))⟩]) (.seq (.seq (.ops [⟨(some 9), none, (.mv (.t 1))⟩, ⟨(some 10), none, (.bin .lss (.t 9) (.c (.t (.int .i64 0))))⟩]) (.cond (.t 10) (.seq (.ops [⟨(some 4), none, (.mv (.c (.t (.int .i64 (-1)))))⟩]) .ret) .skip)) (.seq (.ops [⟨(some 11), none, (.fieldAddr 6 (.t 2))⟩, ⟨(some 12), none, (.load (some 3) (.t 11))⟩, ⟨(some 13), none, (.mv (.t 1))⟩, ⟨(some 14), none, (.call (.c (.fn (.func 95) [])) [(.t 12), (.t 13)])⟩, ⟨(some 1), none, (.mv (.t 14))⟩]) (.seq (.seq (.ops [⟨(some 15), none, (.mv (.t 1))⟩, ⟨(some 16), none, (.bin .lss (.t 15) (.c (.t (.int .i64 0))))⟩]) (.cond (.t 16) (.seq (.ops [⟨(some 4), none, (.mv (.c (.t (.int .i64 (-1)))))⟩]) .ret) .skip)) (.seq (.ops [⟨(some 17), none, (.fieldAddr 9 (.t 2))⟩, ⟨(some 18), none, (.load none (.t 17))⟩, ⟨(some 19), none, (.mv (.t 1))⟩, ⟨(some 20), none, (.call (.c (.fn (.func 96) [])) [(.t 18), (.t 19)])⟩, ⟨(some 1), none, (.mv (.t 20))⟩]) (.seq (.seq (.ops [⟨(some 21), none, (.mv (.t 1))⟩, ⟨(some 22), none, (.bin .lss (.t 21) (.c (.t (.int .i64 0))))⟩]) (.cond (.t 22) (.seq (.ops [⟨(some 4), none, (.mv (.c (.t (.int .i64 (-1)))))⟩]) .ret) .skip)) (.seq (.ops [⟨(some 23), none, (.fieldAddr 10 (.t 2))⟩, ⟨(some 24), none, (.load none (.t 23))⟩, ⟨(some 25), none, (.mv (.t 1))⟩, ⟨(some 26), none, (.call (.c (.fn (.func 56) [])) [(.t 24), (.t 25)])⟩, ⟨(some 1), none, (.mv (.t 26))⟩]) (.seq (.seq (.ops [⟨(some 27), none, (.mv (.t 1))⟩, ⟨(some 28), none, (.bin .lss (.t 27) (.c (.t (.int .i64 0))))⟩]) (.cond (.t 28) (.seq (.ops [⟨(some 4), none, (.mv (.c (.t (.int .i64 (-1)))))⟩]) .ret) .skip)) (.seq (.ops [⟨(some 29), none, (.fieldAddr 14 (.t 2))⟩, ⟨(some 30), none, (.load none (.t 29))⟩, ⟨(some 31), none, (.mv (.t 1))⟩, ⟨(some 32), none, (.call (.c (.fn (.func 97) [])) [(.t 30), (.t 31)])⟩, ⟨(some 1), none, (.mv (.t 32))⟩]) (.seq (.seq (.ops [⟨(some 33), none, (.mv (.t 1))⟩, ⟨(some 34), none, (.bin .lss (.t 33) (.c (.t (.int .i64 0))))⟩]) (.cond (.t 34) (.seq (.ops [⟨(some 4), none, (.mv (.c (.t (.int .i64 (-1)))))⟩]) .ret) .skip)) (.seq (.ops [⟨(some 35), none, (.fieldAddr 15 (.t 2))⟩, ⟨(some 36), none, (.load none (.t 35))⟩, ⟨(some 37), none, (.mv (.t 1))⟩, ⟨(some 38), none, (.call (.c (.fn (.func 27) [])) [(.t 36), (.t 37)])⟩, ⟨(some 1), none, (.mv (.t 38))⟩]) (.seq (.seq (.ops [⟨(some 39), none, (.mv (.t 1))⟩, ⟨(some 40), none, (.bin .lss (.t 39) (.c (.t (.int .i64 0))))⟩]) (.cond (.t 40) (.seq (.ops [⟨(some 4), none, (.mv (.c (.t (.int .i64 (-1)))))⟩]) .ret) .skip)) (.seq (.ops [⟨(some 41), none, (.fieldAddr 16 (.t 2))⟩, ⟨(some 42), none, (.load none (.t 41))⟩, ⟨(some 43), none, (.mv (.t 1))⟩, ⟨(some 44), none, (.call (.c (.fn (.func 98) [])) [(.t 42), (.t 43)])⟩, ⟨(some 1), none, (.mv (.t 44))⟩]) (.seq (.seq (.ops [⟨(some 45), none, (.mv (.t 1))⟩, ⟨(some 46), none, (.bin .lss (.t 45) (.c (.t (.int .i64 0))))⟩]) (.cond (.t 46) (.seq (.ops [⟨(some 4), none, (.mv (.c (.t (.int .i64 (-1)))))⟩]) .ret) .skip)) (.seq (.ops [⟨(some 47), none, (.mv (.t 1))⟩, ⟨(some 4), none, (.mv (.t 47))⟩]) .ret))))))))))))))))
theorem k_laws_heldRecorder : comp Try.prog 48 (Try.f42.body.getD .skip) = some c_laws_heldRecorder := by kernel_rfl

theorem heldRecorder : HeldLOk Try.prog markTxt 42 shRecorder := by
  rintro ts k σ hT hz hk hlt
  obtain ⟨n0, n1, n2, n3, n4, n5, n6, n7, n8, n9, n10, n11, n12, n13, n14, n15, n16, n17, rfl, b0, b1, b3, b4, b5, b6, b7, b8, b9, b10, b13, b14, b15, b16, b17⟩ := isRecorder hT
  rw [sizeRecorder] at hz
  have hm : T.mkVL markTxt k [.int .i64 n0, .int .i64 n1, .bool n2, .int .i64 n3, .int .i64 n4, n5, .int .i64 n6, .int .i64 n7, n8, n9, n10, .bool n11, .bool n12, .int .i64 n13, n14, n15, n16, .int .i64 n17] = ([.int .i64 n0, .int .i64 n1, .bool n2, .int .i64 n3, .int .i64 n4, (T.mk markTxt k n5).1, .int .i64 n6, .int .i64 n7, (T.mk markTxt (T.mk markTxt k n5).2 n8).1, (T.mk markTxt (T.mk markTxt (T.mk markTxt k n5).2 n8).2 n9).1, (T.mk markTxt (T.mk markTxt (T.mk markTxt (T.mk markTxt k n5).2 n8).2 n9).2 n10).1, .bool n11, .bool n12, .int .i64 n13, (T.mk markTxt (T.mk markTxt (T.mk markTxt (T.mk markTxt (T.mk markTxt k n5).2 n8).2 n9).2 n10).2 n14).1, (T.mk markTxt (T.mk markTxt (T.mk markTxt (T.mk markTxt (T.mk markTxt (T.mk markTxt k n5).2 n8).2 n9).2 n10).2 n14).2 n15).1, (T.mk markTxt (T.mk markTxt (T.mk markTxt (T.mk markTxt (T.mk markTxt (T.mk markTxt (T.mk markTxt k n5).2 n8).2 n9).2 n10).2 n14).2 n15).2 n16).1, .int .i64 n17], (T.mk markTxt (T.mk markTxt (T.mk markTxt (T.mk markTxt (T.mk markTxt (T.mk markTxt (T.mk markTxt k n5).2 n8).2 n9).2 n10).2 n14).2 n15).2 n16).2) := by simp only [mkVL_cons, mkVL_nil, mkV_int, mkV_bool, mkV_str, mkV_sl b5, mkV_sl b8, mkV_sl b9, mkV_sl b10, mkV_sl b14, mkV_sl b15, mkV_sl b16]
  rw [hm] at hlt ⊢
  simp only at hlt ⊢
  clear hm
  have l5 := mk_le (mt := markTxt) (k := k) (t := n5)
  have l8 := mk_le (mt := markTxt) (k := (T.mk markTxt k n5).2) (t := n8)
  have l9 := mk_le (mt := markTxt) (k := (T.mk markTxt (T.mk markTxt k n5).2 n8).2) (t := n9)
  have l10 := mk_le (mt := markTxt) (k := (T.mk markTxt (T.mk markTxt (T.mk markTxt k n5).2 n8).2 n9).2) (t := n10)
  have l14 := mk_le (mt := markTxt) (k := (T.mk markTxt (T.mk markTxt (T.mk markTxt (T.mk markTxt k n5).2 n8).2 n9).2 n10).2) (t := n14)
  have l15 := mk_le (mt := markTxt) (k := (T.mk markTxt (T.mk markTxt (T.mk markTxt (T.mk markTxt (T.mk markTxt k n5).2 n8).2 n9).2 n10).2 n14).2) (t := n15)
  have l16 := mk_le (mt := markTxt) (k := (T.mk markTxt (T.mk markTxt (T.mk markTxt (T.mk markTxt (T.mk markTxt (T.mk markTxt k n5).2 n8).2 n9).2 n10).2 n14).2 n15).2) (t := n16)
  refine acalls_of Try.func42 (by decide +kernel) (code := Try.f42.body.getD .skip) (n := 48) (c := c_laws_heldRecorder) (rs := [(.tmp 4)]) rfl rfl k_laws_heldRecorder (by kernel_rfl) (by simp) (fun hσ => ?_)
  have hm3 : T.mkVL markTxt k [.int .i64 n3, .int .i64 n4, n5] = ([.int .i64 n3, .int .i64 n4, (T.mk markTxt k n5).1], (T.mk markTxt k n5).2) := by simp only [mkVL_cons, mkVL_nil, mkV_int, mkV_bool, mkV_str, mkV_sl b5]
  have H3 := fun σ' => heldRecDisk [.int .i64 n3, .int .i64 n4, n5] k σ' (mkRecDisk b3 b4 b5) (by rw [sizeRecDisk]; omega) (by omega) (by rw [hm3]; simp only; omega)
  rw [hm3] at H3
  simp only [List.map_cons, List.map_nil] at H3
  have hm6 : T.mkVL markTxt (T.mk markTxt k n5).2 [.int .i64 n6, .int .i64 n7, n8] = ([.int .i64 n6, .int .i64 n7, (T.mk markTxt (T.mk markTxt k n5).2 n8).1], (T.mk markTxt (T.mk markTxt k n5).2 n8).2) := by simp only [mkVL_cons, mkVL_nil, mkV_int, mkV_bool, mkV_str, mkV_sl b8]
  have H6 := fun σ' => heldRecDisk [.int .i64 n6, .int .i64 n7, n8] (T.mk markTxt k n5).2 σ' (mkRecDisk b6 b7 b8) (by rw [sizeRecDisk]; omega) (by omega) (by rw [hm6]; simp only; omega)
  rw [hm6] at H6
  simp only [List.map_cons, List.map_nil] at H6
  have H9 := fun σ' => heldRecMessageS n9 (T.mk markTxt (T.mk markTxt k n5).2 n8).2 σ' b9 (by omega) (by omega) (by omega)
  have H10 := fun σ' => heldStringS n10 (T.mk markTxt (T.mk markTxt (T.mk markTxt k n5).2 n8).2 n9).2 σ' b10 (by omega) (by omega) (by omega)
  have H14 := fun σ' => heldIntS n14 (T.mk markTxt (T.mk markTxt (T.mk markTxt (T.mk markTxt k n5).2 n8).2 n9).2 n10).2 σ' b14 (by omega) (by omega) (by omega)
  have H15 := fun σ' => heldRecSlotS n15 (T.mk markTxt (T.mk markTxt (T.mk markTxt (T.mk markTxt (T.mk markTxt k n5).2 n8).2 n9).2 n10).2 n14).2 σ' b15 (by omega) (by omega) (by omega)
  have H16 := fun σ' => heldRecAckS n16 (T.mk markTxt (T.mk markTxt (T.mk markTxt (T.mk markTxt (T.mk markTxt (T.mk markTxt k n5).2 n8).2 n9).2 n10).2 n14).2 n15).2 σ' b16 (by omega) (by omega) (by omega)
  simp -implicitDefEqProofs only [c_laws_heldRecorder, nat_neg, S0, S1, S2, S3, S4, S5, S6, S7, S8, S9, S10, S11, S12, S13, S14, S15, opv, opvs, eget, env0, setD, lenStr, lenSl, isNilP, isNilS, putAt, if_true, if_false, reduceCtorEq, Nat.reduceLeDiff, Nat.reduceEqDiff, Nat.reduceSub, Nat.reduceMul, Nat.reduceAdd]
  refine call_pure (H3 _) ?_
  simp -implicitDefEqProofs only [nat_neg, S0, S1, S2, S3, S4, S5, S6, S7, S8, S9, S10, S11, S12, S13, S14, S15, opv, opvs, eget, env0, setD, lenStr, lenSl, isNilP, isNilS, putAt, if_true, if_false, reduceCtorEq, Nat.reduceLeDiff, Nat.reduceEqDiff, Nat.reduceSub, Nat.reduceMul, Nat.reduceAdd]
  refine call_pure (H6 _) ?_
  simp -implicitDefEqProofs only [nat_neg, S0, S1, S2, S3, S4, S5, S6, S7, S8, S9, S10, S11, S12, S13, S14, S15, opv, opvs, eget, env0, setD, lenStr, lenSl, isNilP, isNilS, putAt, if_true, if_false, reduceCtorEq, Nat.reduceLeDiff, Nat.reduceEqDiff, Nat.reduceSub, Nat.reduceMul, Nat.reduceAdd]
  refine call_pure (H9 _) ?_
  simp -implicitDefEqProofs only [nat_neg, S0, S1, S2, S3, S4, S5, S6, S7, S8, S9, S10, S11, S12, S13, S14, S15, opv, opvs, eget, env0, setD, lenStr, lenSl, isNilP, isNilS, putAt, if_true, if_false, reduceCtorEq, Nat.reduceLeDiff, Nat.reduceEqDiff, Nat.reduceSub, Nat.reduceMul, Nat.reduceAdd]
  refine call_pure (H10 _) ?_
  simp -implicitDefEqProofs only [nat_neg, S0, S1, S2, S3, S4, S5, S6, S7, S8, S9, S10, S11, S12, S13, S14, S15, opv, opvs, eget, env0, setD, lenStr, lenSl, isNilP, isNilS, putAt, if_true, if_false, reduceCtorEq, Nat.reduceLeDiff, Nat.reduceEqDiff, Nat.reduceSub, Nat.reduceMul, Nat.reduceAdd]
  refine call_pure (H14 _) ?_
  simp -implicitDefEqProofs only [nat_neg, S0, S1, S2, S3, S4, S5, S6, S7, S8, S9, S10, S11, S12, S13, S14, S15, opv, opvs, eget, env0, setD, lenStr, lenSl, isNilP, isNilS, putAt, if_true, if_false, reduceCtorEq, Nat.reduceLeDiff, Nat.reduceEqDiff, Nat.reduceSub, Nat.reduceMul, Nat.reduceAdd]
  refine call_pure (H15 _) ?_
  simp -implicitDefEqProofs only [nat_neg, S0, S1, S2, S3, S4, S5, S6, S7, S8, S9, S10, S11, S12, S13, S14, S15, opv, opvs, eget, env0, setD, lenStr, lenSl, isNilP, isNilS, putAt, if_true, if_false, reduceCtorEq, Nat.reduceLeDiff, Nat.reduceEqDiff, Nat.reduceSub, Nat.reduceMul, Nat.reduceAdd]
  refine call_pure (H16 _) ?_
  simp -implicitDefEqProofs only [nat_neg, S0, S1, S2, S3, S4, S5, S6, S7, S8, S9, S10, S11, S12, S13, S14, S15, opv, opvs, eget, env0, setD, lenStr, lenSl, isNilP, isNilS, putAt, if_true, if_false, reduceCtorEq, Nat.reduceLeDiff, Nat.reduceEqDiff, Nat.reduceSub, Nat.reduceMul, Nat.reduceAdd]
  exact ret_same rfl hσ rfl ⟨rfl, rfl⟩
end Go.Proofs.Ytleilaipdhmgeaa.W

end


section
open Go Go.Ab
set_option maxHeartbeats 4000000
set_option maxRecDepth 20000
namespace Go.Proofs.Ytleilaipdhmgeaa.W
def c_markRecorderS : C := (.seq (.ops [⟨(some 12), none, (.mv (.t 0))⟩, ⟨(some 13), none, (.mv (.t 5))⟩, ⟨(some 14), none, (.mv (.t 1))⟩, ⟨(some 15), none, (.indexAddr 18 (.t 12) (.t 13))⟩, ⟨(some 16), none, (.fieldAddr 0 (.t 15))⟩, ⟨none, none, (.store 1 (.t 16) (.t 14))⟩]) (.seq (.ops [⟨(some 17), none, (.mv (.t 1))⟩, ⟨(some 18), none, (.bin .add (.t 17) (.c (.t (.int .i64 1))))⟩, ⟨(some 1), none, (.mv (.t 18))⟩]) (.seq (.ops [⟨(some 19), none, (.mv (.t 0))⟩, ⟨(some 20), none, (.mv (.t 5))⟩, ⟨(some 21), none, (.mv (.t 1))⟩, ⟨(some 22), none, (.indexAddr 18 (.t 19) (.t 20))⟩, ⟨(some 23), none, (.fieldAddr 1 (.t 22))⟩, ⟨none, none, (.store 1 (.t 23) (.t 21))⟩]) (.seq (.ops [⟨(some 24), none, (.mv (.t 1))⟩, ⟨(some 25), none, (.bin .add (.t 24) (.c (.t (.int .i64 1))))⟩, ⟨(some 1), none, (.mv (.t 25))⟩]) (.seq (.ops [⟨(some 26), none, (.mv (.t 0))⟩, ⟨(some 27), none, (.mv (.t 5))⟩, ⟨(some 28), none, (.mv (.t 1))⟩, ⟨(some 29), none, (.bin .rem (.t 28) (.c (.t (.int .i64 3))))⟩, ⟨(some 30), none, (.bin .eql (.t 29) (.c (.t (.int .i64 0))))⟩, ⟨(some 31), none, (.indexAddr 18 (.t 26) (.t 27))⟩, ⟨(some 32), none, (.fieldAddr 2 (.t 31))⟩, ⟨none, none, (.store 1 (.t 32) (.t 30))⟩]) (.seq (.ops [⟨(some 33), none, (.mv (.t 1))⟩, ⟨(some 34), none, (.bin .add (.t 33) (.c (.t (.int .i64 1))))⟩, ⟨(some 1), none, (.mv (.t 34))⟩]) (.seq (.ops [⟨(some 35), none, (.mv (.t 0))⟩, ⟨(some 36), none, (.mv (.t 5))⟩, ⟨(some 37), none, (.mv (.t 1))⟩, ⟨(some 38), none, (.indexAddr 18 (.t 35) (.t 36))⟩, ⟨(some 39), none, (.fieldAddr 3 (.t 38))⟩, ⟨(some 40), none, (.fieldAddr 0 (.t 39))⟩, ⟨none, none, (.store 1 (.t 40) (.t 37))⟩]) (.seq (.ops [⟨(some 41), none, (.mv (.t 1))⟩, ⟨(some 42), none, (.bin .add (.t 41) (.c (.t (.int .i64 1))))⟩, ⟨(some 1), none, (.mv (.t 42))⟩]) (.seq (.ops [⟨(some 43), none, (.mv (.t 0))⟩, ⟨(some 44), none, (.mv (.t 5))⟩, ⟨(some 45), none, (.mv (.t 1))⟩, ⟨(some 46), none, (.indexAddr 18 (.t 43) (.t 44))⟩, ⟨(some 47), none, (.fieldAddr 3 (.t 46))⟩, ⟨(some 48), none, (.fieldAddr 1 (.t 47))⟩, ⟨none, none, (.store 1 (.t 48) (.t 45))⟩]) (.seq (.ops [⟨(some 49), none, (.mv (.t 1))⟩, ⟨(some 50), none, (.bin .add (.t 49) (.c (.t (.int .i64 1))))⟩, ⟨(some 1), none, (.mv (.t 50))⟩]) (.seq (.ops [⟨(some 51), none, (.mv (.t 0))⟩, ⟨(some 52), none, (.mv (.t 5))⟩, ⟨(some 53), none, (.indexAddr 18 (.t 51) (.t 52))⟩, ⟨(some 54), none, (.fieldAddr 3 (.t 53))⟩, ⟨(some 55), none, (.fieldAddr 2 (.t 54))⟩, ⟨(some 56), none, (.load none (.t 55))⟩, ⟨(some 57), none, (.mv (.t 1))⟩, ⟨(some 58), none, (.call (.c (.fn (.func 26) [])) [(.t 56), (.t 57)])⟩, ⟨(some 1), none, (.mv (.t 58))⟩]) (.seq (.ops [⟨(some 59), none, (.mv (.t 0))⟩, ⟨(some 60), none, (.mv (.t 5))⟩, ⟨(some 61), none, (.mv (.t 1))⟩, ⟨(some 62), none, (.indexAddr 18 (.t 59) (.t 60))⟩, ⟨(some 63), none, (.fieldAddr 6 (.t 62))⟩, ⟨(some 64), none, (.fieldAddr 0 (.t 63))⟩, ⟨none, none, (.store 1 (.t 64) (.t 61))⟩]) (.seq (.ops [⟨(some 65), none, (.mv (.t 1))⟩, ⟨(some 66), none, (.bin .add (.t 65) (.c (.t (.int .i64 1))))⟩, ⟨(some 1), none, (.mv (.t 66))⟩]) (.seq (.ops [⟨(some 67), none, (.mv (.t 0))⟩, ⟨(some 68), none, (.mv (.t 5))⟩, ⟨(some 69), none, (.mv (.t 1))⟩, ⟨(some 70), none, (.indexAddr 18 (.t 67) (.t 68))⟩, ⟨(some 71), none, (.fieldAddr 6 (.t 70))⟩, ⟨(some 72), none, (.fieldAddr 1 (.t 71))⟩, ⟨none, none, (.store 1 (.t 72) (.t 69))⟩]) (.seq (.ops [⟨(some 73), none, (.mv (.t 1))⟩, ⟨(some 74), none, (.bin .add (.t 73) (.c (.t (.int .i64 1))))⟩, ⟨(some 1), none, (.mv (.t 74))⟩]) (.seq (.ops [⟨(some 75), none, (.mv (.t 0))⟩, ⟨(some 76), none, (.mv (.t 5))⟩, ⟨(some 77), none, (.indexAddr 18 (.t 75) (.t 76))⟩, ⟨(some 78), none, (.fieldAddr 6 (.t 77))⟩, ⟨(some 79), none, (.fieldAddr 2 (.t 78))⟩, ⟨(some 80), none, (.load none (.t 79))⟩, ⟨(some 81), none, (.mv (.t 1))⟩, ⟨(some 82), none, (.call (.c (.fn (.func 26) [])) [(.t 80), (.t 81)])⟩, ⟨(some 1), none, (.mv (.t 82))⟩]) (.seq (.ops [⟨(some 83), none, (.mv (.t 0))⟩, ⟨(some 84), none, (.mv (.t 5))⟩, ⟨(some 85), none, (.indexAddr 18 (.t 83) (.t 84))⟩, ⟨(some 86), none, (.fieldAddr 9 (.t 85))⟩, ⟨(some 87), none, (.load none (.t 86))⟩, ⟨(some 88), none, (.mv (.t 1))⟩, ⟨(some 89), none, (.call (.c (.fn (.func 92) [])) [(.t 87), (.t 88)])⟩, ⟨(some 1), none, (.mv (.t 89))⟩]) (.seq (.ops [⟨(some 90), none, (.mv (.t 0))⟩, ⟨(some 91), none, (.mv (.t 5))⟩, ⟨(some 92), none, (.indexAddr 18 (.t 90) (.t 91))⟩, ⟨(some 93), none, (.fieldAddr 10 (.t 92))⟩, ⟨(some 94), none, (.load none (.t 93))⟩, ⟨(some 95), none, (.mv (.t 1))⟩, ⟨(some 96), none, (.call (.c (.fn (.func 55) [])) [(.t 94), (.t 95)])⟩, ⟨(some 1), none, (.mv (.t 96))⟩]) (.seq (.ops [⟨(some 97), none, (.mv (.t 0))⟩, ⟨(some 98), none, (.mv (.t 5))⟩, ⟨(some 99), none, (.mv (.t 1))⟩, ⟨(some 100), none, (.bin .rem (.t 99) (.c (.t (.int .i64 3))))⟩, ⟨(some 101), none, (.bin .eql (.t 100) (.c (.t (.int .i64 0))))⟩, ⟨(some 102), none, (.indexAddr 18 (.t 97) (.t 98))⟩, ⟨(some 103), none, (.fieldAddr 11 (.t 102))⟩, ⟨none, none, (.store 1 (.t 103) (.t 101))⟩]) (.seq (.ops [⟨(some 104), none, (.mv (.t 1))⟩, ⟨(some 105), none, (.bin .add (.t 104) (.c (.t (.int .i64 1))))⟩, ⟨(some 1), none, (.mv (.t 105))⟩]) (.seq (.ops [⟨(some 106), none, (.mv (.t 0))⟩, ⟨(some 107), none, (.mv (.t 5))⟩, ⟨(some 108), none, (.mv (.t 1))⟩, ⟨(some 109), none, (.bin .rem (.t 108) (.c (.t (.int .i64 3))))⟩, ⟨(some 110), none, (.bin .eql (.t 109) (.c (.t (.int .i64 0))))⟩, ⟨(some 111), none, (.indexAddr 18 (.t 106) (.t 107))⟩, ⟨(some 112), none, (.fieldAddr 12 (.t 111))⟩, ⟨none, none, (.store 1 (.t 112) (.t 110))⟩]) (.seq (.ops [⟨(some 113), none, (.mv (.t 1))⟩, ⟨(some 114), none, (.bin .add (.t 113) (.c (.t (.int .i64 1))))⟩, ⟨(some 1), none, (.mv (.t 114))⟩]) (.seq (.ops [⟨(some 115), none, (.mv (.t 0))⟩, ⟨(some 116), none, (.mv (.t 5))⟩, ⟨(some 117), none, (.mv (.t 1))⟩, ⟨(some 118), none, (.indexAddr 18 (.t 115) (.t 116))⟩, ⟨(some 119), none, (.fieldAddr 13 (.t 118))⟩, ⟨none, none, (.store 1 (.t 119) (.t 117))⟩]) (.seq (.ops [⟨(some 120), none, (.mv (.t 1))⟩, ⟨(some 121), none, (.bin .add (.t 120) (.c (.t (.int .i64 1))))⟩, ⟨(some 1), none, (.mv (.t 121))⟩]) (.seq (.ops [⟨(some 122), none, (.mv (.t 0))⟩, ⟨(some 123), none, (.mv (.t 5))⟩, ⟨(some 124), none, (.indexAddr 18 (.t 122) (.t 123))⟩, ⟨(some 125), none, (.fieldAddr 14 (.t 124))⟩, ⟨(some 126), none, (.load none (.t 125))⟩, ⟨(some 127), none, (.mv (.t 1))⟩, ⟨(some 128), none, (.call (.c (.fn (.func 93) [])) [(.t 126), (.t 127)])⟩, ⟨(some 1), none, (.mv (.t 128))⟩]) (.seq (.ops [⟨(some 129), none, (.mv (.t 0))⟩, ⟨(some 130), none, (.mv (.t 5))⟩, ⟨(some 131), none, (.indexAddr 18 (.t 129) (.t 130))⟩, ⟨(some 132), none, (.fieldAddr 15 (.t 131))⟩, ⟨(some 133), none, (.load none (.t 132))⟩, ⟨(some 134), none, (.mv (.t 1))⟩, ⟨(some 135), none, (.call (.c (.fn (.func 26) [])) [(.t 133), (.t 134)])⟩, ⟨(some 1), none, (.mv (.t 135))⟩]) (.seq (.ops [⟨(some 136), none, (.mv (.t 0))⟩, ⟨(some 137), none, (.mv (.t 5))⟩, ⟨(some 138), none, (.indexAddr 18 (.t 136) (.t 137))⟩, ⟨(some 139), none, (.fieldAddr 16 (.t 138))⟩, ⟨(some 140), none, (.load none (.t 139))⟩, ⟨(some 141), none, (.mv (.t 1))⟩, ⟨(some 142), none, (.call (.c (.fn (.func 94) [])) [(.t 140), (.t 141)])⟩, ⟨(some 1), none, (.mv (.t 142))⟩]) (.seq (.ops [⟨(some 143), none, (.mv (.t 0))⟩, ⟨(some 144), none, (.mv (.t 5))⟩, ⟨(some 145), none, (.mv (.t 1))⟩, ⟨(some 146), none, (.indexAddr 18 (.t 143) (.t 144))⟩, ⟨(some 147), none, (.fieldAddr 17 (.t 146))⟩, ⟨none, none, (.store 1 (.t 147) (.t 145))⟩]) (.ops [⟨(some 148), none, (.mv (.t 1))⟩, ⟨(some 149), none, (.bin .add (.t 148) (.c (.t (.int .i64 1))))⟩, ⟨(some 1), none, (.mv (.t 149))⟩])))))))))))))))))))))))))))))
theorem row_markRecorderS : RowMark Try.prog markTxt 18 c_markRecorderS shRecorder := by
  intro b Q e σ id len i rs row r ji k g0 g5 g1 hl hi hs hr hT hz hO hnd hk hlt hQ
  obtain ⟨n0, n1, n2, n3, n4, n5, n6, n7, n8, n9, n10, n11, n12, n13, n14, n15, n16, n17, rfl, b0, b1, b3, b4, b5, b6, b7, b8, b9, b10, b13, b14, b15, b16, b17⟩ := isRecorder hT
  rw [sizeRecorder] at hz
  have hm : T.mkL markTxt k [.int .i64 n0, .int .i64 n1, .bool n2, .int .i64 n3, .int .i64 n4, n5, .int .i64 n6, .int .i64 n7, n8, n9, n10, .bool n11, .bool n12, .int .i64 n13, n14, n15, n16, .int .i64 n17] = ([.int .i64 ((k : Nat) : Int), .int .i64 (((k + 1) : Nat) : Int), .bool ((((k + 2) : Nat) : Int).tmod 3 == 0), .int .i64 (((k + 3) : Nat) : Int), .int .i64 (((k + 4) : Nat) : Int), (T.mk markTxt (k + 5) n5).1, .int .i64 (((T.mk markTxt (k + 5) n5).2 : Nat) : Int), .int .i64 ((((T.mk markTxt (k + 5) n5).2 + 1) : Nat) : Int), (T.mk markTxt ((T.mk markTxt (k + 5) n5).2 + 2) n8).1, (T.mk markTxt (T.mk markTxt ((T.mk markTxt (k + 5) n5).2 + 2) n8).2 n9).1, (T.mk markTxt (T.mk markTxt (T.mk markTxt ((T.mk markTxt (k + 5) n5).2 + 2) n8).2 n9).2 n10).1, .bool ((((T.mk markTxt (T.mk markTxt (T.mk markTxt ((T.mk markTxt (k + 5) n5).2 + 2) n8).2 n9).2 n10).2 : Nat) : Int).tmod 3 == 0), .bool (((((T.mk markTxt (T.mk markTxt (T.mk markTxt ((T.mk markTxt (k + 5) n5).2 + 2) n8).2 n9).2 n10).2 + 1) : Nat) : Int).tmod 3 == 0), .int .i64 ((((T.mk markTxt (T.mk markTxt (T.mk markTxt ((T.mk markTxt (k + 5) n5).2 + 2) n8).2 n9).2 n10).2 + 2) : Nat) : Int), (T.mk markTxt ((T.mk markTxt (T.mk markTxt (T.mk markTxt ((T.mk markTxt (k + 5) n5).2 + 2) n8).2 n9).2 n10).2 + 3) n14).1, (T.mk markTxt (T.mk markTxt ((T.mk markTxt (T.mk markTxt (T.mk markTxt ((T.mk markTxt (k + 5) n5).2 + 2) n8).2 n9).2 n10).2 + 3) n14).2 n15).1, (T.mk markTxt (T.mk markTxt (T.mk markTxt ((T.mk markTxt (T.mk markTxt (T.mk markTxt ((T.mk markTxt (k + 5) n5).2 + 2) n8).2 n9).2 n10).2 + 3) n14).2 n15).2 n16).1, .int .i64 (((T.mk markTxt (T.mk markTxt (T.mk markTxt ((T.mk markTxt (T.mk markTxt (T.mk markTxt ((T.mk markTxt (k + 5) n5).2 + 2) n8).2 n9).2 n10).2 + 3) n14).2 n15).2 n16).2 : Nat) : Int)], ((T.mk markTxt (T.mk markTxt (T.mk markTxt ((T.mk markTxt (T.mk markTxt (T.mk markTxt ((T.mk markTxt (k + 5) n5).2 + 2) n8).2 n9).2 n10).2 + 3) n14).2 n15).2 n16).2 + 1)) := by simp only [mkL_cons, mkL_nil, mkc_int, mkc_bool, mkc_str, Nat.add_assoc, Nat.reduceAdd]
  rw [hm] at hlt hQ
  simp only at hlt hQ
  clear hm
  obtain ⟨_, rfl, hO0⟩ := oc_int hO
  clear hO
  obtain ⟨_, rfl, hO1⟩ := oc_int hO0
  clear hO0
  obtain ⟨_, rfl, hO2⟩ := oc_bool hO1
  clear hO1
  obtain ⟨_, rfl, hO3⟩ := oc_int hO2
  clear hO2
  obtain ⟨_, rfl, hO4⟩ := oc_int hO3
  clear hO3
  obtain ⟨u5, _, j5, _, rfl, rfl, o5, hO5⟩ := oc_lst hO4
  clear hO4
  obtain ⟨_, rfl, hO6⟩ := oc_int hO5
  clear hO5
  obtain ⟨_, rfl, hO7⟩ := oc_int hO6
  clear hO6
  obtain ⟨u8, _, j8, _, rfl, rfl, o8, hO8⟩ := oc_lst hO7
  clear hO7
  obtain ⟨u9, _, j9, _, rfl, rfl, o9, hO9⟩ := oc_lst hO8
  clear hO8
  obtain ⟨u10, _, j10, _, rfl, rfl, o10, hO10⟩ := oc_lst hO9
  clear hO9
  obtain ⟨_, rfl, hO11⟩ := oc_bool hO10
  clear hO10
  obtain ⟨_, rfl, hO12⟩ := oc_bool hO11
  clear hO11
  obtain ⟨_, rfl, hO13⟩ := oc_int hO12
  clear hO12
  obtain ⟨u14, _, j14, _, rfl, rfl, o14, hO14⟩ := oc_lst hO13
  clear hO13
  obtain ⟨u15, _, j15, _, rfl, rfl, o15, hO15⟩ := oc_lst hO14
  clear hO14
  obtain ⟨u16, _, j16, _, rfl, rfl, o16, hO16⟩ := oc_lst hO15
  clear hO15
  obtain ⟨_, rfl, hO17⟩ := oc_int hO16
  clear hO16
  obtain ⟨rfl, rfl⟩ := oc_nil hO17
  have l5 := mk_le (mt := markTxt) (k := (k + 5)) (t := n5)
  have l8 := mk_le (mt := markTxt) (k := ((T.mk markTxt (k + 5) n5).2 + 2)) (t := n8)
  have l9 := mk_le (mt := markTxt) (k := (T.mk markTxt ((T.mk markTxt (k + 5) n5).2 + 2) n8).2) (t := n9)
  have l10 := mk_le (mt := markTxt) (k := (T.mk markTxt (T.mk markTxt ((T.mk markTxt (k + 5) n5).2 + 2) n8).2 n9).2) (t := n10)
  have l14 := mk_le (mt := markTxt) (k := ((T.mk markTxt (T.mk markTxt (T.mk markTxt ((T.mk markTxt (k + 5) n5).2 + 2) n8).2 n9).2 n10).2 + 3)) (t := n14)
  have l15 := mk_le (mt := markTxt) (k := (T.mk markTxt ((T.mk markTxt (T.mk markTxt (T.mk markTxt ((T.mk markTxt (k + 5) n5).2 + 2) n8).2 n9).2 n10).2 + 3) n14).2) (t := n15)
  have l16 := mk_le (mt := markTxt) (k := (T.mk markTxt (T.mk markTxt ((T.mk markTxt (T.mk markTxt (T.mk markTxt ((T.mk markTxt (k + 5) n5).2 + 2) n8).2 n9).2 n10).2 + 3) n14).2 n15).2) (t := n16)
  have w0 : IntKind.i64.wrap (((k : Nat) : Int) + 1) = (((k + 1) : Nat) : Int) := i64_succ (k := k) (by omega)
  have w1 : IntKind.i64.wrap ((((k + 1) : Nat) : Int) + 1) = (((k + 2) : Nat) : Int) := i64_succ (k := (k + 1)) (by omega)
  have w2 : IntKind.i64.wrap ((((k + 2) : Nat) : Int) + 1) = (((k + 3) : Nat) : Int) := i64_succ (k := (k + 2)) (by omega)
  have w3 : IntKind.i64.wrap ((((k + 3) : Nat) : Int) + 1) = (((k + 4) : Nat) : Int) := i64_succ (k := (k + 3)) (by omega)
  have w4 : IntKind.i64.wrap ((((k + 4) : Nat) : Int) + 1) = (((k + 5) : Nat) : Int) := i64_succ (k := (k + 4)) (by omega)
  have w6 : IntKind.i64.wrap ((((T.mk markTxt (k + 5) n5).2 : Nat) : Int) + 1) = ((((T.mk markTxt (k + 5) n5).2 + 1) : Nat) : Int) := i64_succ (k := (T.mk markTxt (k + 5) n5).2) (by omega)
  have w7 : IntKind.i64.wrap (((((T.mk markTxt (k + 5) n5).2 + 1) : Nat) : Int) + 1) = ((((T.mk markTxt (k + 5) n5).2 + 2) : Nat) : Int) := i64_succ (k := ((T.mk markTxt (k + 5) n5).2 + 1)) (by omega)
  have w11 : IntKind.i64.wrap ((((T.mk markTxt (T.mk markTxt (T.mk markTxt ((T.mk markTxt (k + 5) n5).2 + 2) n8).2 n9).2 n10).2 : Nat) : Int) + 1) = ((((T.mk markTxt (T.mk markTxt (T.mk markTxt ((T.mk markTxt (k + 5) n5).2 + 2) n8).2 n9).2 n10).2 + 1) : Nat) : Int) := i64_succ (k := (T.mk markTxt (T.mk markTxt (T.mk markTxt ((T.mk markTxt (k + 5) n5).2 + 2) n8).2 n9).2 n10).2) (by omega)
  have w12 : IntKind.i64.wrap (((((T.mk markTxt (T.mk markTxt (T.mk markTxt ((T.mk markTxt (k + 5) n5).2 + 2) n8).2 n9).2 n10).2 + 1) : Nat) : Int) + 1) = ((((T.mk markTxt (T.mk markTxt (T.mk markTxt ((T.mk markTxt (k + 5) n5).2 + 2) n8).2 n9).2 n10).2 + 2) : Nat) : Int) := i64_succ (k := ((T.mk markTxt (T.mk markTxt (T.mk markTxt ((T.mk markTxt (k + 5) n5).2 + 2) n8).2 n9).2 n10).2 + 1)) (by omega)
  have w13 : IntKind.i64.wrap (((((T.mk markTxt (T.mk markTxt (T.mk markTxt ((T.mk markTxt (k + 5) n5).2 + 2) n8).2 n9).2 n10).2 + 2) : Nat) : Int) + 1) = ((((T.mk markTxt (T.mk markTxt (T.mk markTxt ((T.mk markTxt (k + 5) n5).2 + 2) n8).2 n9).2 n10).2 + 3) : Nat) : Int) := i64_succ (k := ((T.mk markTxt (T.mk markTxt (T.mk markTxt ((T.mk markTxt (k + 5) n5).2 + 2) n8).2 n9).2 n10).2 + 2)) (by omega)
  have w17 : IntKind.i64.wrap ((((T.mk markTxt (T.mk markTxt (T.mk markTxt ((T.mk markTxt (T.mk markTxt (T.mk markTxt ((T.mk markTxt (k + 5) n5).2 + 2) n8).2 n9).2 n10).2 + 3) n14).2 n15).2 n16).2 : Nat) : Int) + 1) = ((((T.mk markTxt (T.mk markTxt (T.mk markTxt ((T.mk markTxt (T.mk markTxt (T.mk markTxt ((T.mk markTxt (k + 5) n5).2 + 2) n8).2 n9).2 n10).2 + 3) n14).2 n15).2 n16).2 + 1) : Nat) : Int) := i64_succ (k := (T.mk markTxt (T.mk markTxt (T.mk markTxt ((T.mk markTxt (T.mk markTxt (T.mk markTxt ((T.mk markTxt (k + 5) n5).2 + 2) n8).2 n9).2 n10).2 + 3) n14).2 n15).2 n16).2) (by omega)
  have hidl := (List.getElem?_eq_some_iff.1 hs).1
  have s0 : ∀ o, (σ.set id o)[id]? = some o := fun o => by simp [hidl]
  have rr : ∀ x, (rs.set i x)[i]? = some x := fun x => by simp [hl, hi]
  have hi' : ((i : Nat) : Int) < ((len : Nat) : Int) := by omega
  have three : ((3 : Int) ≠ 0) = True := by simp
  obtain ⟨nid, nd⟩ := List.nodup_cons.1 hnd
  simp only [List.mem_append, not_or, List.not_mem_nil, not_false_eq_true, and_true] at nid
  obtain ⟨nd5, rest5, dj5, dk5⟩ := nd_app nd
  obtain ⟨nd8, rest8, dj8, dk8⟩ := nd_app rest5
  obtain ⟨nd9, rest9, dj9, dk9⟩ := nd_app rest8
  obtain ⟨nd10, rest10, dj10, dk10⟩ := nd_app rest9
  obtain ⟨nd14, rest14, dj14, dk14⟩ := nd_app rest10
  obtain ⟨nd15, rest15, dj15, dk15⟩ := nd_app rest14
  obtain ⟨nd16, rest16, dj16, dk16⟩ := nd_app rest15
  have ni5 : id ∉ j5 := nid.1
  have ni8 : id ∉ j8 := nid.2.1
  have ni9 : id ∉ j9 := nid.2.2.1
  have ni10 : id ∉ j10 := nid.2.2.2.1
  have ni14 : id ∉ j14 := nid.2.2.2.2.1
  have ni15 : id ∉ j15 := nid.2.2.2.2.2.1
  have ni16 : id ∉ j16 := nid.2.2.2.2.2.2
  simp -implicitDefEqProofs only [c_markRecorderS, g0, g5, g1, hs, hr, hl, hi', nat_nn, s0, rr, three, Nat.zero_le, w0, w1, w2, w3, w4, w6, w7, w11, w12, w13, w17, one_cells o5.one, o5.one, one_cells o8.one, o8.one, one_cells o9.one, o9.one, one_cells o10.one, o10.one, one_cells o14.one, o14.one, one_cells o15.one, o15.one, one_cells o16.one, o16.one, S0, S1, S2, S3, S4, S5, S6, S7, S8, S9, S10, S11, S12, S13, S14, S15, opv, opvs, eget, env0, setD, lenStr, lenSl, isNilP, isNilS, putAt, if_true, if_false, reduceCtorEq, Nat.reduceLeDiff, Nat.reduceEqDiff, Nat.reduceSub, Nat.reduceMul, Nat.reduceAdd]
  refine call_by (by rw [List.append_nil]; exact markRecSlotS n5 u5 j5 (k + 5) _ b5 (by omega) (o5.set ni5) nd5 (by omega) (by omega)) ?_
  rintro r' σ5 ⟨rfl, q5, y5, f5⟩
  have e5 := f5 id (by (try simp only [List.length_set]); exact hidl) ni5
  first | rw [s0] at e5 | rw [hs] at e5
  have h5 := (List.getElem?_eq_some_iff.1 e5).1
  have s5 : ∀ o, (σ5.set id o)[id]? = some o := fun o => by simp [h5]
  simp -implicitDefEqProofs only [s5, e5, g0, g5, g1, hs, hr, hl, hi', nat_nn, s0, rr, three, Nat.zero_le, w0, w1, w2, w3, w4, w6, w7, w11, w12, w13, w17, one_cells o5.one, o5.one, one_cells o8.one, o8.one, one_cells o9.one, o9.one, one_cells o10.one, o10.one, one_cells o14.one, o14.one, one_cells o15.one, o15.one, one_cells o16.one, o16.one, S0, S1, S2, S3, S4, S5, S6, S7, S8, S9, S10, S11, S12, S13, S14, S15, opv, opvs, eget, env0, setD, lenStr, lenSl, isNilP, isNilS, putAt, if_true, if_false, reduceCtorEq, Nat.reduceLeDiff, Nat.reduceEqDiff, Nat.reduceSub, Nat.reduceMul, Nat.reduceAdd]
  refine call_by (by rw [List.append_nil]; exact markRecSlotS n8 u8 j8 ((T.mk markTxt (k + 5) n5).2 + 2) _ b8 (by omega) (((o8.set ni8).other f5 (fun x hx h => dj5 x h (by simp [hx]))).set ni8) nd8 (by omega) (by omega)) ?_
  rintro r' σ8 ⟨rfl, q8, y8, f8⟩
  have e8 := f8 id (by (try simp only [List.length_set]); exact h5) ni8
  first | rw [s5] at e8 | rw [e5] at e8
  have h8 := (List.getElem?_eq_some_iff.1 e8).1
  have s8 : ∀ o, (σ8.set id o)[id]? = some o := fun o => by simp [h8]
  simp -implicitDefEqProofs only [s5, e5, s8, e8, g0, g5, g1, hs, hr, hl, hi', nat_nn, s0, rr, three, Nat.zero_le, w0, w1, w2, w3, w4, w6, w7, w11, w12, w13, w17, one_cells o5.one, o5.one, one_cells o8.one, o8.one, one_cells o9.one, o9.one, one_cells o10.one, o10.one, one_cells o14.one, o14.one, one_cells o15.one, o15.one, one_cells o16.one, o16.one, S0, S1, S2, S3, S4, S5, S6, S7, S8, S9, S10, S11, S12, S13, S14, S15, opv, opvs, eget, env0, setD, lenStr, lenSl, isNilP, isNilS, putAt, if_true, if_false, reduceCtorEq, Nat.reduceLeDiff, Nat.reduceEqDiff, Nat.reduceSub, Nat.reduceMul, Nat.reduceAdd]
  refine call_by (by rw [List.append_nil]; exact markRecMessageS n9 u9 j9 (T.mk markTxt ((T.mk markTxt (k + 5) n5).2 + 2) n8).2 _ b9 (by omega) ((((o9.set ni9).other f5 (fun x hx h => dj5 x h (by simp [hx]))).set ni9).other f8 (fun x hx h => dj8 x h (by simp [hx]))) nd9 (by omega) (by omega)) ?_
  rintro r' σ9 ⟨rfl, q9, y9, f9⟩
  have e9 := f9 id (by (try simp only [List.length_set]); exact h8) ni9
  first | rw [s8] at e9 | rw [e8] at e9
  have h9 := (List.getElem?_eq_some_iff.1 e9).1
  have s9 : ∀ o, (σ9.set id o)[id]? = some o := fun o => by simp [h9]
  simp -implicitDefEqProofs only [s5, e5, s8, e8, s9, e9, g0, g5, g1, hs, hr, hl, hi', nat_nn, s0, rr, three, Nat.zero_le, w0, w1, w2, w3, w4, w6, w7, w11, w12, w13, w17, one_cells o5.one, o5.one, one_cells o8.one, o8.one, one_cells o9.one, o9.one, one_cells o10.one, o10.one, one_cells o14.one, o14.one, one_cells o15.one, o15.one, one_cells o16.one, o16.one, S0, S1, S2, S3, S4, S5, S6, S7, S8, S9, S10, S11, S12, S13, S14, S15, opv, opvs, eget, env0, setD, lenStr, lenSl, isNilP, isNilS, putAt, if_true, if_false, reduceCtorEq, Nat.reduceLeDiff, Nat.reduceEqDiff, Nat.reduceSub, Nat.reduceMul, Nat.reduceAdd]
  refine call_by (by rw [List.append_nil]; exact markStringS n10 u10 j10 (T.mk markTxt (T.mk markTxt ((T.mk markTxt (k + 5) n5).2 + 2) n8).2 n9).2 _ b10 (by omega) (((((o10.set ni10).other f5 (fun x hx h => dj5 x h (by simp [hx]))).set ni10).other f8 (fun x hx h => dj8 x h (by simp [hx]))).other f9 (fun x hx h => dj9 x h (by simp [hx]))) nd10 (by omega) (by omega)) ?_
  rintro r' σ10 ⟨rfl, q10, y10, f10⟩
  have e10 := f10 id (by (try simp only [List.length_set]); exact h9) ni10
  first | rw [s9] at e10 | rw [e9] at e10
  have h10 := (List.getElem?_eq_some_iff.1 e10).1
  have s10 : ∀ o, (σ10.set id o)[id]? = some o := fun o => by simp [h10]
  simp -implicitDefEqProofs only [s5, e5, s8, e8, s9, e9, s10, e10, g0, g5, g1, hs, hr, hl, hi', nat_nn, s0, rr, three, Nat.zero_le, w0, w1, w2, w3, w4, w6, w7, w11, w12, w13, w17, one_cells o5.one, o5.one, one_cells o8.one, o8.one, one_cells o9.one, o9.one, one_cells o10.one, o10.one, one_cells o14.one, o14.one, one_cells o15.one, o15.one, one_cells o16.one, o16.one, S0, S1, S2, S3, S4, S5, S6, S7, S8, S9, S10, S11, S12, S13, S14, S15, opv, opvs, eget, env0, setD, lenStr, lenSl, isNilP, isNilS, putAt, if_true, if_false, reduceCtorEq, Nat.reduceLeDiff, Nat.reduceEqDiff, Nat.reduceSub, Nat.reduceMul, Nat.reduceAdd]
  refine call_by (by rw [List.append_nil]; exact markIntS n14 u14 j14 ((T.mk markTxt (T.mk markTxt (T.mk markTxt ((T.mk markTxt (k + 5) n5).2 + 2) n8).2 n9).2 n10).2 + 3) _ b14 (by omega) (((((((o14.set ni14).other f5 (fun x hx h => dj5 x h (by simp [hx]))).set ni14).other f8 (fun x hx h => dj8 x h (by simp [hx]))).other f9 (fun x hx h => dj9 x h (by simp [hx]))).other f10 (fun x hx h => dj10 x h (by simp [hx]))).set ni14) nd14 (by omega) (by omega)) ?_
  rintro r' σ14 ⟨rfl, q14, y14, f14⟩
  have e14 := f14 id (by (try simp only [List.length_set]); exact h10) ni14
  first | rw [s10] at e14 | rw [e10] at e14
  have h14 := (List.getElem?_eq_some_iff.1 e14).1
  have s14 : ∀ o, (σ14.set id o)[id]? = some o := fun o => by simp [h14]
  simp -implicitDefEqProofs only [s5, e5, s8, e8, s9, e9, s10, e10, s14, e14, g0, g5, g1, hs, hr, hl, hi', nat_nn, s0, rr, three, Nat.zero_le, w0, w1, w2, w3, w4, w6, w7, w11, w12, w13, w17, one_cells o5.one, o5.one, one_cells o8.one, o8.one, one_cells o9.one, o9.one, one_cells o10.one, o10.one, one_cells o14.one, o14.one, one_cells o15.one, o15.one, one_cells o16.one, o16.one, S0, S1, S2, S3, S4, S5, S6, S7, S8, S9, S10, S11, S12, S13, S14, S15, opv, opvs, eget, env0, setD, lenStr, lenSl, isNilP, isNilS, putAt, if_true, if_false, reduceCtorEq, Nat.reduceLeDiff, Nat.reduceEqDiff, Nat.reduceSub, Nat.reduceMul, Nat.reduceAdd]
  refine call_by (by rw [List.append_nil]; exact markRecSlotS n15 u15 j15 (T.mk markTxt ((T.mk markTxt (T.mk markTxt (T.mk markTxt ((T.mk markTxt (k + 5) n5).2 + 2) n8).2 n9).2 n10).2 + 3) n14).2 _ b15 (by omega) ((((((((o15.set ni15).other f5 (fun x hx h => dj5 x h (by simp [hx]))).set ni15).other f8 (fun x hx h => dj8 x h (by simp [hx]))).other f9 (fun x hx h => dj9 x h (by simp [hx]))).other f10 (fun x hx h => dj10 x h (by simp [hx]))).set ni15).other f14 (fun x hx h => dj14 x h (by simp [hx]))) nd15 (by omega) (by omega)) ?_
  rintro r' σ15 ⟨rfl, q15, y15, f15⟩
  have e15 := f15 id (by (try simp only [List.length_set]); exact h14) ni15
  first | rw [s14] at e15 | rw [e14] at e15
  have h15 := (List.getElem?_eq_some_iff.1 e15).1
  have s15 : ∀ o, (σ15.set id o)[id]? = some o := fun o => by simp [h15]
  simp -implicitDefEqProofs only [s5, e5, s8, e8, s9, e9, s10, e10, s14, e14, s15, e15, g0, g5, g1, hs, hr, hl, hi', nat_nn, s0, rr, three, Nat.zero_le, w0, w1, w2, w3, w4, w6, w7, w11, w12, w13, w17, one_cells o5.one, o5.one, one_cells o8.one, o8.one, one_cells o9.one, o9.one, one_cells o10.one, o10.one, one_cells o14.one, o14.one, one_cells o15.one, o15.one, one_cells o16.one, o16.one, S0, S1, S2, S3, S4, S5, S6, S7, S8, S9, S10, S11, S12, S13, S14, S15, opv, opvs, eget, env0, setD, lenStr, lenSl, isNilP, isNilS, putAt, if_true, if_false, reduceCtorEq, Nat.reduceLeDiff, Nat.reduceEqDiff, Nat.reduceSub, Nat.reduceMul, Nat.reduceAdd]
  refine call_by (by rw [List.append_nil]; exact markRecAckS n16 u16 j16 (T.mk markTxt (T.mk markTxt ((T.mk markTxt (T.mk markTxt (T.mk markTxt ((T.mk markTxt (k + 5) n5).2 + 2) n8).2 n9).2 n10).2 + 3) n14).2 n15).2 _ b16 (by omega) (((((((((o16.set ni16).other f5 (fun x hx h => dj5 x h (by simp [hx]))).set ni16).other f8 (fun x hx h => dj8 x h (by simp [hx]))).other f9 (fun x hx h => dj9 x h (by simp [hx]))).other f10 (fun x hx h => dj10 x h (by simp [hx]))).set ni16).other f14 (fun x hx h => dj14 x h (by simp [hx]))).other f15 (fun x hx h => dj15 x h (by simp [hx]))) nd16 (by omega) (by omega)) ?_
  rintro r' σ16 ⟨rfl, q16, y16, f16⟩
  have e16 := f16 id (by (try simp only [List.length_set]); exact h15) ni16
  first | rw [s15] at e16 | rw [e15] at e16
  have h16 := (List.getElem?_eq_some_iff.1 e16).1
  have s16 : ∀ o, (σ16.set id o)[id]? = some o := fun o => by simp [h16]
  simp -implicitDefEqProofs only [s5, e5, s8, e8, s9, e9, s10, e10, s14, e14, s15, e15, s16, e16, g0, g5, g1, hs, hr, hl, hi', nat_nn, s0, rr, three, Nat.zero_le, w0, w1, w2, w3, w4, w6, w7, w11, w12, w13, w17, one_cells o5.one, o5.one, one_cells o8.one, o8.one, one_cells o9.one, o9.one, one_cells o10.one, o10.one, one_cells o14.one, o14.one, one_cells o15.one, o15.one, one_cells o16.one, o16.one, S0, S1, S2, S3, S4, S5, S6, S7, S8, S9, S10, S11, S12, S13, S14, S15, opv, opvs, eget, env0, setD, lenStr, lenSl, isNilP, isNilS, putAt, if_true, if_false, reduceCtorEq, Nat.reduceLeDiff, Nat.reduceEqDiff, Nat.reduceSub, Nat.reduceMul, Nat.reduceAdd]
  refine hQ _ _ [.t (.int .i64 ((k : Nat) : Int)), .t (.int .i64 (((k + 1) : Nat) : Int)), .t (.bool ((((k + 2) : Nat) : Int).tmod 3 == 0)), .t (.int .i64 (((k + 3) : Nat) : Int)), .t (.int .i64 (((k + 4) : Nat) : Int)), u5, .t (.int .i64 (((T.mk markTxt (k + 5) n5).2 : Nat) : Int)), .t (.int .i64 ((((T.mk markTxt (k + 5) n5).2 + 1) : Nat) : Int)), u8, u9, u10, .t (.bool ((((T.mk markTxt (T.mk markTxt (T.mk markTxt ((T.mk markTxt (k + 5) n5).2 + 2) n8).2 n9).2 n10).2 : Nat) : Int).tmod 3 == 0)), .t (.bool (((((T.mk markTxt (T.mk markTxt (T.mk markTxt ((T.mk markTxt (k + 5) n5).2 + 2) n8).2 n9).2 n10).2 + 1) : Nat) : Int).tmod 3 == 0)), .t (.int .i64 ((((T.mk markTxt (T.mk markTxt (T.mk markTxt ((T.mk markTxt (k + 5) n5).2 + 2) n8).2 n9).2 n10).2 + 2) : Nat) : Int)), u14, u15, u16, .t (.int .i64 (((T.mk markTxt (T.mk markTxt (T.mk markTxt ((T.mk markTxt (T.mk markTxt (T.mk markTxt ((T.mk markTxt (k + 5) n5).2 + 2) n8).2 n9).2 n10).2 + 3) n14).2 n15).2 n16).2 : Nat) : Int))] ?_ ?_ ?_ ?_ ?_ ?_ ?_
  · simp -implicitDefEqProofs only [g0, g5, g1, S0, S1, S2, S3, S4, S5, S6, S7, S8, S9, S10, S11, S12, S13, S14, S15, opv, opvs, eget, env0, setD, lenStr, lenSl, isNilP, isNilS, putAt, if_true, if_false, reduceCtorEq, Nat.reduceLeDiff, Nat.reduceEqDiff, Nat.reduceSub, Nat.reduceMul, Nat.reduceAdd]
  · simp -implicitDefEqProofs only [g0, g5, g1, S0, S1, S2, S3, S4, S5, S6, S7, S8, S9, S10, S11, S12, S13, S14, S15, opv, opvs, eget, env0, setD, lenStr, lenSl, isNilP, isNilS, putAt, if_true, if_false, reduceCtorEq, Nat.reduceLeDiff, Nat.reduceEqDiff, Nat.reduceSub, Nat.reduceMul, Nat.reduceAdd]
  · simp -implicitDefEqProofs only [g0, g5, g1, S0, S1, S2, S3, S4, S5, S6, S7, S8, S9, S10, S11, S12, S13, S14, S15, opv, opvs, eget, env0, setD, lenStr, lenSl, isNilP, isNilS, putAt, if_true, if_false, reduceCtorEq, Nat.reduceLeDiff, Nat.reduceEqDiff, Nat.reduceSub, Nat.reduceMul, Nat.reduceAdd]
  · exact s16 _
  · exact (OwnL.int (OwnL.int (OwnL.bool (OwnL.int (OwnL.int (OwnL.lst (((((((((q5.set ni5).other f8 (fun x hx => fun h => dj5 x hx (by simp [h]))).other f9 (fun x hx => fun h => dj5 x hx (by simp [h]))).other f10 (fun x hx => fun h => dj5 x hx (by simp [h]))).set ni5).other f14 (fun x hx => fun h => dj5 x hx (by simp [h]))).other f15 (fun x hx => fun h => dj5 x hx (by simp [h]))).other f16 (fun x hx => fun h => dj5 x hx (by simp [h]))).set ni5) (OwnL.int (OwnL.int (OwnL.lst (((((((q8.other f9 (fun x hx => fun h => dj8 x hx (by simp [h]))).other f10 (fun x hx => fun h => dj8 x hx (by simp [h]))).set ni8).other f14 (fun x hx => fun h => dj8 x hx (by simp [h]))).other f15 (fun x hx => fun h => dj8 x hx (by simp [h]))).other f16 (fun x hx => fun h => dj8 x hx (by simp [h]))).set ni8) (OwnL.lst ((((((q9.other f10 (fun x hx => fun h => dj9 x hx (by simp [h]))).set ni9).other f14 (fun x hx => fun h => dj9 x hx (by simp [h]))).other f15 (fun x hx => fun h => dj9 x hx (by simp [h]))).other f16 (fun x hx => fun h => dj9 x hx (by simp [h]))).set ni9) (OwnL.lst (((((q10.set ni10).other f14 (fun x hx => fun h => dj10 x hx (by simp [h]))).other f15 (fun x hx => fun h => dj10 x hx (by simp [h]))).other f16 (fun x hx => fun h => dj10 x hx (by simp [h]))).set ni10) (OwnL.bool (OwnL.bool (OwnL.int (OwnL.lst (((q14.other f15 (fun x hx => fun h => dj14 x hx (by simp [h]))).other f16 (fun x hx => fun h => dj14 x hx (by simp [h]))).set ni14) (OwnL.lst ((q15.other f16 (fun x hx => fun h => dj15 x hx (by simp [h]))).set ni15) (OwnL.lst (q16.set ni16) (OwnL.int OwnL.nil0))))))))))))))))))
  · simp only [List.length_set] at y5 y8 y9 y10 y14 y15 y16 ⊢
    omega
  · intro j hj hn
    simp only [List.mem_cons, List.mem_append, List.not_mem_nil, not_or, not_false_eq_true, and_true] at hn
    rw [List.getElem?_set_ne (fun e => hn.1 e.symm)]
    rw [f16 j (by simp only [List.length_set] at y5 y8 y9 y10 y14 y15 y16 ⊢; omega) hn.2.2.2.2.2.2.2]
    rw [f15 j (by simp only [List.length_set] at y5 y8 y9 y10 y14 y15 y16 ⊢; omega) hn.2.2.2.2.2.2.1]
    rw [f14 j (by simp only [List.length_set] at y5 y8 y9 y10 y14 y15 y16 ⊢; omega) hn.2.2.2.2.2.1]
    rw [List.getElem?_set_ne (fun e => hn.1 e.symm)]
    rw [f10 j (by simp only [List.length_set] at y5 y8 y9 y10 y14 y15 y16 ⊢; omega) hn.2.2.2.2.1]
    rw [f9 j (by simp only [List.length_set] at y5 y8 y9 y10 y14 y15 y16 ⊢; omega) hn.2.2.2.1]
    rw [f8 j (by simp only [List.length_set] at y5 y8 y9 y10 y14 y15 y16 ⊢; omega) hn.2.2.1]
    rw [List.getElem?_set_ne (fun e => hn.1 e.symm)]
    rw [f5 j (by simp only [List.length_set] at y5 y8 y9 y10 y14 y15 y16 ⊢; omega) hn.2.1]
    rw [List.getElem?_set_ne (fun e => hn.1 e.symm)]
theorem i_markRecorderS : Is Try.prog 115 151 [(.tmp 4)] (tMarkS 150 c_markRecorderS) := ⟨_, _, Try.func115, by decide +kernel, rfl, rfl, by kernel_rfl, rfl⟩
theorem markRecorderS : MarkOk Try.prog markTxt 115 (.sl 18 shRecorder) := markS_ok rfl (by decide) (by decide) i_markRecorderS row_markRecorderS
def c_heldRecorderS : C := (.seq (.seq (.ops [⟨(some 12), none, (.mv (.t 0))⟩, ⟨(some 13), none, (.mv (.t 5))⟩, ⟨(some 14), none, (.indexAddr 18 (.t 12) (.t 13))⟩, ⟨(some 15), none, (.fieldAddr 0 (.t 14))⟩, ⟨(some 16), none, (.load none (.t 15))⟩, ⟨(some 17), none, (.mv (.t 1))⟩, ⟨(some 18), none, (.bin .neq (.t 16) (.t 17))⟩]) (.cond (.t 18) (.seq (.ops [⟨(some 4), none, (.mv (.c (.t (.int .i64 (-1)))))⟩]) .ret) .skip)) (.seq (.ops [⟨(some 19), none, (.mv (.t 1))⟩, ⟨(some 20), none, (.bin .add (.t 19) (.c (.t (.int .i64 1))))⟩, ⟨(some 1), none, (.mv (.t 20))⟩]) (.seq (.seq (.ops [⟨(some 21), none, (.mv (.t 0))⟩, ⟨(some 22), none, (.mv (.t 5))⟩, ⟨(some 23), none, (.indexAddr 18 (.t 21) (.t 22))⟩, ⟨(some 24), none, (.fieldAddr 1 (.t 23))⟩, ⟨(some 25), none, (.load none (.t 24))⟩, ⟨(some 26), none, (.mv (.t 1))⟩, ⟨(some 27), none, (.bin .neq (.t 25) (.t 26))⟩]) (.cond (.t 27) (.seq (.ops [⟨(some 4), none, (.mv (.c (.t (.int .i64 (-1)))))⟩]) .ret) .skip)) (.seq (.ops [⟨(some 28), none, (.mv (.t 1))⟩, ⟨(some 29), none, (.bin .add (.t 28) (.c (.t (.int .i64 1))))⟩, ⟨(some 1), none, (.mv (.t 29))⟩]) (.seq (.seq (.ops [⟨(some 30), none, (.mv (.t 0))⟩, ⟨(some 31), none, (.mv (.t 5))⟩, ⟨(some 32), none, (.indexAddr 18 (.t 30) (.t 31))⟩, ⟨(some 33), none, (.fieldAddr 2 (.t 32))⟩, ⟨(some 34), none, (.load none (.t 33))⟩, ⟨(some 35), none, (.mv (.t 1))⟩, ⟨(some 36), none, (.bin .rem (.t 35) (.c (.t (.int .i64 3))))⟩, ⟨(some 37), none, (.bin .eql (.t 36) (.c (.t (.int .i64 0))))⟩, ⟨(some 38), none, (.eqB true (.t 34) (.t 37))⟩]) (.cond (.t 38) (.seq (.ops [⟨(some 4), none, (.mv (.c (.t (.int .i64 (-1)))))⟩]) .ret) .skip)) (.seq (.ops [⟨(some 39), none, (.mv (.t 1))⟩, ⟨(some 40), none, (.bin .add (.t 39) (.c (.t (.int .i64 1))))⟩, ⟨(some 1), none, (.mv (.t 40))⟩]) (.seq (.seq (.ops [⟨(some 41), none, (.mv (.t 0))⟩, ⟨(some 42), none, (.mv (.t 5))⟩, ⟨(some 43), none, (.indexAddr 18 (.t 41) (.t 42))⟩, ⟨(some 44), none, (.fieldAddr 3 (.t 43))⟩, ⟨(some 45), none, (.fieldAddr 0 (.t 44))⟩, ⟨(some 46), none, (.load none (.t 45))⟩, ⟨(some 47), none, (.mv (.t 1))⟩, ⟨(some 48), none, (.bin .neq (.t 46) (.t 47))⟩]) (.cond (.t 48) (.seq (.ops [⟨(some 4), none, (.mv (.c (.t (.int .i64 (-1)))))⟩]) .ret) .skip)) (.seq (.ops [⟨(some 49), none, (.mv (.t 1))⟩, ⟨(some 50), none, (.bin .add (.t 49) (.c (.t (.int .i64 1))))⟩, ⟨(some 1), none, (.mv (.t 50))⟩]) (.seq (.seq (.ops [⟨(some 51), none, (.mv (.t 0))⟩, ⟨(some 52), none, (.mv (.t 5))⟩, ⟨(some 53), none, (.indexAddr 18 (.t 51) (.t 52))⟩, ⟨(some 54), none, (.fieldAddr 3 (.t 53))⟩, ⟨(some 55), none, (.fieldAddr 1 (.t 54))⟩, ⟨(some 56), none, (.load none (.t 55))⟩, ⟨(some 57), none, (.mv (.t 1))⟩, ⟨(some 58), none, (.bin .neq (.t 56) (.t 57))⟩]) (.cond (.t 58) (.seq (.ops [⟨(some 4), none, (.mv (.c (.t (.int .i64 (-1)))))⟩]) .ret) .skip)) (.seq (.ops [⟨(some 59), none, (.mv (.t 1))⟩, ⟨(some 60), none, (.bin .add (.t 59) (.c (.t (.int .i64 1))))⟩, ⟨(some 1), none, (.mv (.t 60))⟩]) (.seq (.ops [⟨(some 61), none, (.mv (.t 0))⟩, ⟨(some 62), none, (.mv (.t 5))⟩, ⟨(some 63), none, (.indexAddr 18 (.t 61) (.t 62))⟩, ⟨(some 64), none, (.fieldAddr 3 (.t 63))⟩, ⟨(some 65), none, (.fieldAddr 2 (.t 64))⟩, ⟨(some 66), none, (.load none (.t 65))⟩, ⟨(some 67), none, (.mv (.t 1))⟩, ⟨(some 68), none, (.call (.c (.fn (.func 27) [])) [(.t 66), (.t 67)])⟩, ⟨(some 1), none, (.mv (.t 68))⟩]) (.seq (.seq (.ops [⟨(some 69), none, (.mv (.t 1))⟩, ⟨(some 70), none, (.bin .lss (.t 69) (.c (.t (.int .i64 0))))⟩]) (.cond (.t 70) (.seq (.ops [⟨(some 4), none, (.mv (.c (.t (.int .i64 (-1)))))⟩]) .ret) .skip)) (.seq (.seq (.ops [⟨(some 71), none, (.mv (.t 0))⟩, ⟨(some 72), none, (.mv (.t 5))⟩, ⟨(some 73), none, (.indexAddr 18 (.t 71) (.t 72))⟩, ⟨(some 74), none, (.fieldAddr 6 (.t 73))⟩, ⟨(some 75), none, (.fieldAddr 0 (.t 74))⟩, ⟨(some 76), none, (.load none (.t 75))⟩, ⟨(some 77), none, (.mv (.t 1))⟩, ⟨(some 78), none, (.bin .neq (.t 76) (.t 77))⟩]) (.cond (.t 78) (.seq (.ops [⟨(some 4), none, (.mv (.c (.t (.int .i64 (-1)))))⟩]) .ret) .skip)) (.seq (.ops [⟨(some 79), none, (.mv (.t 1))⟩, ⟨(some 80), none, (.bin .add (.t 79) (.c (.t (.int .i64 1))))⟩, ⟨(some 1), none, (.mv (.t 80))⟩]) (.seq (.seq (.ops [⟨(some 81), none, (.mv (.t 0))⟩, ⟨(some 82), none, (.mv (.t 5))⟩, ⟨(some 83), none, (.indexAddr 18 (.t 81) (.t 82))⟩, ⟨(some 84), none, (.fieldAddr 6 (.t 83))⟩, ⟨(some 85), none, (.fieldAddr 1 (.t 84))⟩, ⟨(some 86), none, (.load none (.t 85))⟩, ⟨(some 87), none, (.mv (.t 1))⟩, ⟨(some 88), none, (.bin .neq (.t 86) (.t 87))⟩]) (.cond (.t 88) (.seq (.ops [⟨(some 4), none, (.mv (.c (.t (.int .i64 (-1)))))⟩]) .ret) .skip)) (.seq (.ops [⟨(some 89), none, (.mv (.t 1))⟩, ⟨(some 90), none, (.bin .add (.t 89) (.c (.t (.int .i64 1))))⟩, ⟨(some 1), none, (.mv (.t 90))⟩]) (.seq (.ops [⟨(some 91), none, (.mv (.t 0))⟩, ⟨(some 92), none, (.mv (.t 5))⟩, ⟨(some 93), none, (.indexAddr 18 (.t 91) (.t 92))⟩, ⟨(some 94), none, (.fieldAddr 6 (.t 93))⟩, ⟨(some 95), none, (.fieldAddr 2 (.t 94))⟩, ⟨(some 96), none, (.load none (.t 95))⟩, ⟨(some 97), none, (.mv (.t 1))⟩, ⟨(some 98), none, (.call (.c (.fn (.func 27) [])) [(.t 96), (.t 97)])⟩, ⟨(some 1), none, (.mv (.t 98))⟩]) (.seq (.seq (.ops [⟨(some 99), none, (.mv (.t 1))⟩, ⟨(some 100), none, (.bin .lss (.t 99) (.c (.t (.int .i64 0))))⟩]) (.cond (.t 100) (.seq (.ops [⟨(some 4), none, (.mv (.c (.t (.int .i64 (-1)))))⟩]) .ret) .skip)) (.seq (.ops [⟨(some 101), none, (.mv (.t 0))⟩, ⟨(some 102), none, (.mv (.t 5))⟩, ⟨(some 103), none, (.indexAddr 18 (.t 101) (.t 102))⟩, ⟨(some 104), none, (.fieldAddr 9 (.t 103))⟩, ⟨(some 105), none, (.load none (.t 104))⟩, ⟨(some 106), none, (.mv (.t 1))⟩, ⟨(some 107), none, (.call (.c (.fn (.func 96) [])) [(.t 105), (.t 106)])⟩, ⟨(some 1), none, (.mv (.t 107))⟩]) (.seq (.seq (.ops [⟨(some 108), none, (.mv (.t 1))⟩, ⟨(some 109), none, (.bin .lss (.t 108) (.c (.t (.int .i64 0))))⟩]) (.cond (.t 109) (.seq (.ops [⟨(some 4), none, (.mv (.c (.t (.int .i64 (-1)))))⟩]) .ret) .skip)) (.seq (.ops [⟨(some 110), none, (.mv (.t 0))⟩, ⟨(some 111), none, (.mv (.t 5))⟩, ⟨(some 112), none, (.indexAddr 18 (.t 110) (.t 111))⟩, ⟨(some 113), none, (.fieldAddr 10 (.t 112))⟩, ⟨(some 114), none, (.load none (.t 113))⟩, ⟨(some 115), none, (.mv (.t 1))⟩, ⟨(some 116), none, (.call (.c (.fn (.func 56) [])) [(.t 114), (.t 115)])⟩, ⟨(some 1), none, (.mv (.t 116))⟩]) (.seq (.seq (.ops [⟨(some 117), none, (.mv (.t 1))⟩, ⟨(some 118), none, (.bin .lss (.t 117) (.c (.t (.int .i64 0))))⟩]) (.cond (.t 118) (.seq (.ops [⟨(some 4), none, (.mv (.c (.t (.int .i64 (-1)))))⟩]) .ret) .skip)) (.seq (.seq (.ops [⟨(some 119), none, (.mv (.t 0))⟩, ⟨(some 120), none, (.mv (.t 5))⟩, ⟨(some 121), none, (.indexAddr 18 (.t 119) (.t 120))⟩, ⟨(some 122), none, (.fieldAddr 11 (.t 121))⟩, ⟨(some 123), none, (.load none (.t 122))⟩, ⟨(some 124), none, (.mv (.t 1))⟩, ⟨(some 125), none, (.bin .rem (.t 124) (.c (.t (.int .i64 3))))⟩, ⟨(some 126), none, (.bin .eql (.t 125) (.c (.t (.int .i64 0))))⟩, ⟨(some 127), none, (.eqB true (.t 123) (.t 126))⟩]) (.cond (.t 127) (.seq (.ops [⟨(some 4), none, (.mv (.c (.t (.int .i64 (-1)))))⟩]) .ret) .skip)) (.seq (.ops [⟨(some 128), none, (.mv (.t 1))⟩, ⟨(some 129), none, (.bin .add (.t 128) (.c (.t (.int .i64 1))))⟩, ⟨(some 1), none, (.mv (.t 129))⟩]) (.seq (.seq (.ops [⟨(some 130), none, (.mv (.t 0))⟩, ⟨(some 131), none, (.mv (.t 5))⟩, ⟨(some 132), none, (.indexAddr 18 (.t 130) (.t 131))⟩, ⟨(some 133), none, (.fieldAddr 12 (.t 132))⟩, ⟨(some 134), none, (.load none (.t 133))⟩, ⟨(some 135), none, (.mv (.t 1))⟩, ⟨(some 136), none, (.bin .rem (.t 135) (.c (.t (.int .i64 3))))⟩, ⟨(some 137), none, (.bin .eql (.t 136) (.c (.t (.int .i64 0))))⟩, ⟨(some 138), none, (.eqB true (.t 134) (.t 137))⟩]) (.cond (.t 138) (.seq (.ops [⟨(some 4), none, (.mv (.c (.t (.int .i64 (-1)))))⟩]) .ret) .skip)) (.seq (.ops [⟨(some 139), none, (.mv (.t 1))⟩, ⟨(some 140), none, (.bin .add (.t 139) (.c (.t (.int .i64 1))))⟩, ⟨(some 1), none, (.mv (.t 140))⟩]) (.seq (.seq (.ops [⟨(some 141), none, (.mv (.t 0))⟩, ⟨(some 142), none, (.mv (.t 5))⟩, ⟨(some 143), none, (.indexAddr 18 (.t 141) (.t 142))⟩, ⟨(some 144), none, (.fieldAddr 13 (.t 143))⟩, ⟨(some 145), none, (.load none (.t 144))⟩, ⟨(some 146), none, (.mv (.t 1))⟩, ⟨(some 147), none, (.bin .neq (.t 145) (.t 146))⟩]) (.cond (.t 147) (.seq (.ops [⟨(some 4), none, (.mv (.c (.t (.int .i64 (-1)))))⟩]) .ret) .skip)) (.seq (.ops [⟨(some 148), none, (.mv (.t 1))⟩, ⟨(some 149), none, (.bin .add (.t 148) (.c (.t (.int .i64 1))))⟩, ⟨(some 1), none, (.mv (.t 149))⟩]) (.seq (.ops [⟨(some 150), none, (.mv (.t 0))⟩, ⟨(some 151), none, (.mv (.t 5))⟩, ⟨(some 152), none, (.indexAddr 18 (.t 150) (.t 151))⟩, ⟨(some 153), none, (.fieldAddr 14 (.t 152))⟩, ⟨(some 154), none, (.load none (.t 153))⟩, ⟨(some 155), none, (.mv (.t 1))⟩, ⟨(some 156), none, (.call (.c (.fn (.func 97) [])) [(.t 154), (.t 155)])⟩, ⟨(some 1), none, (.mv (.t 156))⟩]) (.seq (.seq (.ops [⟨(some 157), none, (.mv (.t 1))⟩, ⟨(some 158), none, (.bin .lss (.t 157) (.c (.t (.int .i64 0))))⟩]) (.cond (.t 158) (.seq (.ops [⟨(some 4), none, (.mv (.c (.t (.int .i64 (-1)))))⟩]) .ret) .skip)) (.seq (.ops [⟨(some 159), none, (.mv (.t 0))⟩, ⟨(some 160), none, (.mv (.t 5))⟩, ⟨(some 161), none, (.indexAddr 18 (.t 159) (.t 160))⟩, ⟨(some 162), none, (.fieldAddr 15 (.t 161))⟩, ⟨(some 163), none, (.load none (.t 162))⟩, ⟨(some 164), none, (.mv (.t 1))⟩, ⟨(some 165), none, (.call (.c (.fn (.func 27) [])) [(.t 163), (.t 164)])⟩, ⟨(some 1), none, (.mv (.t 165))⟩]) (.seq (.seq (.ops [⟨(some 166), none, (.mv (.t 1))⟩, ⟨(some 167), none, (.bin .lss (.t 166) (.c (.t (.int .i64 0))))⟩]) (.cond (.t 167) (.seq (.ops [⟨(some 4), none, (.mv (.c (.t (.int .i64 (-1)))))⟩]) .ret) .skip)) (.seq (.ops [⟨(some 168), none, (.mv (.t 0))⟩, ⟨(some 169), none, (.mv (.t 5))⟩, ⟨(some 170), none, (.indexAddr 18 (.t 168) (.t 169))⟩, ⟨(some 171), none, (.fieldAddr 16 (.t 170))⟩, ⟨(some 172), none, (.load none (.t 171))⟩, ⟨(some 173), none, (.mv (.t 1))⟩, ⟨(some 174), none, (.call (.c (.fn (.func 98) [])) [(.t 172), (.t 173)])⟩, ⟨(some 1), none, (.mv (.t 174))⟩]) (.seq (.seq (.ops [⟨(some 175), none, (.mv (.t 1))⟩, ⟨(some 176), none, (.bin .lss (.t 175) (.c (.t (.int .i64 0))))⟩]) (.cond (.t 176) (.seq (.ops [⟨(some 4), none, (.mv (.c (.t (.int .i64 (-1)))))⟩]) .ret) .skip)) (.seq (.seq (.ops [⟨(some 177), none, (.mv (.t 0))⟩, ⟨(some 178), none, (.mv (.t 5))⟩, ⟨(some 179), none, (.indexAddr 18 (.t 177) (.t 178))⟩, ⟨(some 180), none, (.fieldAddr 17 (.t 179))⟩, ⟨(some 181), none, (.load none (.t 180))⟩, ⟨(some 182), none, (.mv (.t 1))⟩, ⟨(some 183), none, (.bin .neq (.t 181) (.t 182))⟩]) (.cond (.t 183) (.seq (.ops [⟨(some 4), none, (.mv (.c (.t (.int .i64 (-1)))))⟩]) .ret) .skip)) (.ops [⟨(some 184), none, (.mv (.t 1))⟩, ⟨(some 185), none, (.bin .add (.t 184) (.c (.t (.int .i64 1))))⟩, ⟨(some 1), none, (.mv (.t 185))⟩]))))))))))))))))))))))))))))))))))))
theorem row_heldRecorderS : RowHeld Try.prog markTxt 18 c_heldRecorderS shRecorder := by
  intro b Q e σ i rows row k g0 g5 g1 hr hT hz hk hlt hQ
  obtain ⟨n0, n1, n2, n3, n4, n5, n6, n7, n8, n9, n10, n11, n12, n13, n14, n15, n16, n17, rfl, b0, b1, b3, b4, b5, b6, b7, b8, b9, b10, b13, b14, b15, b16, b17⟩ := isRecorder hT
  rw [sizeRecorder] at hz
  have hm : T.mkL markTxt k [.int .i64 n0, .int .i64 n1, .bool n2, .int .i64 n3, .int .i64 n4, n5, .int .i64 n6, .int .i64 n7, n8, n9, n10, .bool n11, .bool n12, .int .i64 n13, n14, n15, n16, .int .i64 n17] = ([.int .i64 ((k : Nat) : Int), .int .i64 (((k + 1) : Nat) : Int), .bool ((((k + 2) : Nat) : Int).tmod 3 == 0), .int .i64 (((k + 3) : Nat) : Int), .int .i64 (((k + 4) : Nat) : Int), (T.mk markTxt (k + 5) n5).1, .int .i64 (((T.mk markTxt (k + 5) n5).2 : Nat) : Int), .int .i64 ((((T.mk markTxt (k + 5) n5).2 + 1) : Nat) : Int), (T.mk markTxt ((T.mk markTxt (k + 5) n5).2 + 2) n8).1, (T.mk markTxt (T.mk markTxt ((T.mk markTxt (k + 5) n5).2 + 2) n8).2 n9).1, (T.mk markTxt (T.mk markTxt (T.mk markTxt ((T.mk markTxt (k + 5) n5).2 + 2) n8).2 n9).2 n10).1, .bool ((((T.mk markTxt (T.mk markTxt (T.mk markTxt ((T.mk markTxt (k + 5) n5).2 + 2) n8).2 n9).2 n10).2 : Nat) : Int).tmod 3 == 0), .bool (((((T.mk markTxt (T.mk markTxt (T.mk markTxt ((T.mk markTxt (k + 5) n5).2 + 2) n8).2 n9).2 n10).2 + 1) : Nat) : Int).tmod 3 == 0), .int .i64 ((((T.mk markTxt (T.mk markTxt (T.mk markTxt ((T.mk markTxt (k + 5) n5).2 + 2) n8).2 n9).2 n10).2 + 2) : Nat) : Int), (T.mk markTxt ((T.mk markTxt (T.mk markTxt (T.mk markTxt ((T.mk markTxt (k + 5) n5).2 + 2) n8).2 n9).2 n10).2 + 3) n14).1, (T.mk markTxt (T.mk markTxt ((T.mk markTxt (T.mk markTxt (T.mk markTxt ((T.mk markTxt (k + 5) n5).2 + 2) n8).2 n9).2 n10).2 + 3) n14).2 n15).1, (T.mk markTxt (T.mk markTxt (T.mk markTxt ((T.mk markTxt (T.mk markTxt (T.mk markTxt ((T.mk markTxt (k + 5) n5).2 + 2) n8).2 n9).2 n10).2 + 3) n14).2 n15).2 n16).1, .int .i64 (((T.mk markTxt (T.mk markTxt (T.mk markTxt ((T.mk markTxt (T.mk markTxt (T.mk markTxt ((T.mk markTxt (k + 5) n5).2 + 2) n8).2 n9).2 n10).2 + 3) n14).2 n15).2 n16).2 : Nat) : Int)], ((T.mk markTxt (T.mk markTxt (T.mk markTxt ((T.mk markTxt (T.mk markTxt (T.mk markTxt ((T.mk markTxt (k + 5) n5).2 + 2) n8).2 n9).2 n10).2 + 3) n14).2 n15).2 n16).2 + 1)) := by simp only [mkL_cons, mkL_nil, mkc_int, mkc_bool, mkc_str, Nat.add_assoc, Nat.reduceAdd]
  rw [hm] at hlt hQ hr
  simp only at hlt hQ hr
  clear hm
  have l5 := mk_le (mt := markTxt) (k := (k + 5)) (t := n5)
  have l8 := mk_le (mt := markTxt) (k := ((T.mk markTxt (k + 5) n5).2 + 2)) (t := n8)
  have l9 := mk_le (mt := markTxt) (k := (T.mk markTxt ((T.mk markTxt (k + 5) n5).2 + 2) n8).2) (t := n9)
  have l10 := mk_le (mt := markTxt) (k := (T.mk markTxt (T.mk markTxt ((T.mk markTxt (k + 5) n5).2 + 2) n8).2 n9).2) (t := n10)
  have l14 := mk_le (mt := markTxt) (k := ((T.mk markTxt (T.mk markTxt (T.mk markTxt ((T.mk markTxt (k + 5) n5).2 + 2) n8).2 n9).2 n10).2 + 3)) (t := n14)
  have l15 := mk_le (mt := markTxt) (k := (T.mk markTxt ((T.mk markTxt (T.mk markTxt (T.mk markTxt ((T.mk markTxt (k + 5) n5).2 + 2) n8).2 n9).2 n10).2 + 3) n14).2) (t := n15)
  have l16 := mk_le (mt := markTxt) (k := (T.mk markTxt (T.mk markTxt ((T.mk markTxt (T.mk markTxt (T.mk markTxt ((T.mk markTxt (k + 5) n5).2 + 2) n8).2 n9).2 n10).2 + 3) n14).2 n15).2) (t := n16)
  have w0 : IntKind.i64.wrap (((k : Nat) : Int) + 1) = (((k + 1) : Nat) : Int) := i64_succ (k := k) (by omega)
  have w1 : IntKind.i64.wrap ((((k + 1) : Nat) : Int) + 1) = (((k + 2) : Nat) : Int) := i64_succ (k := (k + 1)) (by omega)
  have w2 : IntKind.i64.wrap ((((k + 2) : Nat) : Int) + 1) = (((k + 3) : Nat) : Int) := i64_succ (k := (k + 2)) (by omega)
  have w3 : IntKind.i64.wrap ((((k + 3) : Nat) : Int) + 1) = (((k + 4) : Nat) : Int) := i64_succ (k := (k + 3)) (by omega)
  have w4 : IntKind.i64.wrap ((((k + 4) : Nat) : Int) + 1) = (((k + 5) : Nat) : Int) := i64_succ (k := (k + 4)) (by omega)
  have w6 : IntKind.i64.wrap ((((T.mk markTxt (k + 5) n5).2 : Nat) : Int) + 1) = ((((T.mk markTxt (k + 5) n5).2 + 1) : Nat) : Int) := i64_succ (k := (T.mk markTxt (k + 5) n5).2) (by omega)
  have w7 : IntKind.i64.wrap (((((T.mk markTxt (k + 5) n5).2 + 1) : Nat) : Int) + 1) = ((((T.mk markTxt (k + 5) n5).2 + 2) : Nat) : Int) := i64_succ (k := ((T.mk markTxt (k + 5) n5).2 + 1)) (by omega)
  have w11 : IntKind.i64.wrap ((((T.mk markTxt (T.mk markTxt (T.mk markTxt ((T.mk markTxt (k + 5) n5).2 + 2) n8).2 n9).2 n10).2 : Nat) : Int) + 1) = ((((T.mk markTxt (T.mk markTxt (T.mk markTxt ((T.mk markTxt (k + 5) n5).2 + 2) n8).2 n9).2 n10).2 + 1) : Nat) : Int) := i64_succ (k := (T.mk markTxt (T.mk markTxt (T.mk markTxt ((T.mk markTxt (k + 5) n5).2 + 2) n8).2 n9).2 n10).2) (by omega)
  have w12 : IntKind.i64.wrap (((((T.mk markTxt (T.mk markTxt (T.mk markTxt ((T.mk markTxt (k + 5) n5).2 + 2) n8).2 n9).2 n10).2 + 1) : Nat) : Int) + 1) = ((((T.mk markTxt (T.mk markTxt (T.mk markTxt ((T.mk markTxt (k + 5) n5).2 + 2) n8).2 n9).2 n10).2 + 2) : Nat) : Int) := i64_succ (k := ((T.mk markTxt (T.mk markTxt (T.mk markTxt ((T.mk markTxt (k + 5) n5).2 + 2) n8).2 n9).2 n10).2 + 1)) (by omega)
  have w13 : IntKind.i64.wrap (((((T.mk markTxt (T.mk markTxt (T.mk markTxt ((T.mk markTxt (k + 5) n5).2 + 2) n8).2 n9).2 n10).2 + 2) : Nat) : Int) + 1) = ((((T.mk markTxt (T.mk markTxt (T.mk markTxt ((T.mk markTxt (k + 5) n5).2 + 2) n8).2 n9).2 n10).2 + 3) : Nat) : Int) := i64_succ (k := ((T.mk markTxt (T.mk markTxt (T.mk markTxt ((T.mk markTxt (k + 5) n5).2 + 2) n8).2 n9).2 n10).2 + 2)) (by omega)
  have w17 : IntKind.i64.wrap ((((T.mk markTxt (T.mk markTxt (T.mk markTxt ((T.mk markTxt (T.mk markTxt (T.mk markTxt ((T.mk markTxt (k + 5) n5).2 + 2) n8).2 n9).2 n10).2 + 3) n14).2 n15).2 n16).2 : Nat) : Int) + 1) = ((((T.mk markTxt (T.mk markTxt (T.mk markTxt ((T.mk markTxt (T.mk markTxt (T.mk markTxt ((T.mk markTxt (k + 5) n5).2 + 2) n8).2 n9).2 n10).2 + 3) n14).2 n15).2 n16).2 + 1) : Nat) : Int) := i64_succ (k := (T.mk markTxt (T.mk markTxt (T.mk markTxt ((T.mk markTxt (T.mk markTxt (T.mk markTxt ((T.mk markTxt (k + 5) n5).2 + 2) n8).2 n9).2 n10).2 + 3) n14).2 n15).2 n16).2) (by omega)
  have three : ((3 : Int) ≠ 0) = True := by simp
  simp -implicitDefEqProofs only [c_heldRecorderS, g0, g5, g1, hr, nat_nn, three, nat_neg, ne_self, beq_self_eq_true, Nat.zero_le, w0, w1, w2, w3, w4, w6, w7, w11, w12, w13, w17, S0, S1, S2, S3, S4, S5, S6, S7, S8, S9, S10, S11, S12, S13, S14, S15, opv, opvs, eget, env0, setD, lenStr, lenSl, isNilP, isNilS, putAt, if_true, if_false, reduceCtorEq, Nat.reduceLeDiff, Nat.reduceEqDiff, Nat.reduceSub, Nat.reduceMul, Nat.reduceAdd]
  refine call_pure (heldRecSlotS n5 (k + 5) _ b5 (by omega) (by omega) (by omega)) ?_
  simp -implicitDefEqProofs only [g0, g5, g1, hr, nat_nn, three, nat_neg, ne_self, beq_self_eq_true, Nat.zero_le, w0, w1, w2, w3, w4, w6, w7, w11, w12, w13, w17, S0, S1, S2, S3, S4, S5, S6, S7, S8, S9, S10, S11, S12, S13, S14, S15, opv, opvs, eget, env0, setD, lenStr, lenSl, isNilP, isNilS, putAt, if_true, if_false, reduceCtorEq, Nat.reduceLeDiff, Nat.reduceEqDiff, Nat.reduceSub, Nat.reduceMul, Nat.reduceAdd]
  refine call_pure (heldRecSlotS n8 ((T.mk markTxt (k + 5) n5).2 + 2) _ b8 (by omega) (by omega) (by omega)) ?_
  simp -implicitDefEqProofs only [g0, g5, g1, hr, nat_nn, three, nat_neg, ne_self, beq_self_eq_true, Nat.zero_le, w0, w1, w2, w3, w4, w6, w7, w11, w12, w13, w17, S0, S1, S2, S3, S4, S5, S6, S7, S8, S9, S10, S11, S12, S13, S14, S15, opv, opvs, eget, env0, setD, lenStr, lenSl, isNilP, isNilS, putAt, if_true, if_false, reduceCtorEq, Nat.reduceLeDiff, Nat.reduceEqDiff, Nat.reduceSub, Nat.reduceMul, Nat.reduceAdd]
  refine call_pure (heldRecMessageS n9 (T.mk markTxt ((T.mk markTxt (k + 5) n5).2 + 2) n8).2 _ b9 (by omega) (by omega) (by omega)) ?_
  simp -implicitDefEqProofs only [g0, g5, g1, hr, nat_nn, three, nat_neg, ne_self, beq_self_eq_true, Nat.zero_le, w0, w1, w2, w3, w4, w6, w7, w11, w12, w13, w17, S0, S1, S2, S3, S4, S5, S6, S7, S8, S9, S10, S11, S12, S13, S14, S15, opv, opvs, eget, env0, setD, lenStr, lenSl, isNilP, isNilS, putAt, if_true, if_false, reduceCtorEq, Nat.reduceLeDiff, Nat.reduceEqDiff, Nat.reduceSub, Nat.reduceMul, Nat.reduceAdd]
  refine call_pure (heldStringS n10 (T.mk markTxt (T.mk markTxt ((T.mk markTxt (k + 5) n5).2 + 2) n8).2 n9).2 _ b10 (by omega) (by omega) (by omega)) ?_
  simp -implicitDefEqProofs only [g0, g5, g1, hr, nat_nn, three, nat_neg, ne_self, beq_self_eq_true, Nat.zero_le, w0, w1, w2, w3, w4, w6, w7, w11, w12, w13, w17, S0, S1, S2, S3, S4, S5, S6, S7, S8, S9, S10, S11, S12, S13, S14, S15, opv, opvs, eget, env0, setD, lenStr, lenSl, isNilP, isNilS, putAt, if_true, if_false, reduceCtorEq, Nat.reduceLeDiff, Nat.reduceEqDiff, Nat.reduceSub, Nat.reduceMul, Nat.reduceAdd]
  refine call_pure (heldIntS n14 ((T.mk markTxt (T.mk markTxt (T.mk markTxt ((T.mk markTxt (k + 5) n5).2 + 2) n8).2 n9).2 n10).2 + 3) _ b14 (by omega) (by omega) (by omega)) ?_
  simp -implicitDefEqProofs only [g0, g5, g1, hr, nat_nn, three, nat_neg, ne_self, beq_self_eq_true, Nat.zero_le, w0, w1, w2, w3, w4, w6, w7, w11, w12, w13, w17, S0, S1, S2, S3, S4, S5, S6, S7, S8, S9, S10, S11, S12, S13, S14, S15, opv, opvs, eget, env0, setD, lenStr, lenSl, isNilP, isNilS, putAt, if_true, if_false, reduceCtorEq, Nat.reduceLeDiff, Nat.reduceEqDiff, Nat.reduceSub, Nat.reduceMul, Nat.reduceAdd]
  refine call_pure (heldRecSlotS n15 (T.mk markTxt ((T.mk markTxt (T.mk markTxt (T.mk markTxt ((T.mk markTxt (k + 5) n5).2 + 2) n8).2 n9).2 n10).2 + 3) n14).2 _ b15 (by omega) (by omega) (by omega)) ?_
  simp -implicitDefEqProofs only [g0, g5, g1, hr, nat_nn, three, nat_neg, ne_self, beq_self_eq_true, Nat.zero_le, w0, w1, w2, w3, w4, w6, w7, w11, w12, w13, w17, S0, S1, S2, S3, S4, S5, S6, S7, S8, S9, S10, S11, S12, S13, S14, S15, opv, opvs, eget, env0, setD, lenStr, lenSl, isNilP, isNilS, putAt, if_true, if_false, reduceCtorEq, Nat.reduceLeDiff, Nat.reduceEqDiff, Nat.reduceSub, Nat.reduceMul, Nat.reduceAdd]
  refine call_pure (heldRecAckS n16 (T.mk markTxt (T.mk markTxt ((T.mk markTxt (T.mk markTxt (T.mk markTxt ((T.mk markTxt (k + 5) n5).2 + 2) n8).2 n9).2 n10).2 + 3) n14).2 n15).2 _ b16 (by omega) (by omega) (by omega)) ?_
  simp -implicitDefEqProofs only [g0, g5, g1, hr, nat_nn, three, nat_neg, ne_self, beq_self_eq_true, Nat.zero_le, w0, w1, w2, w3, w4, w6, w7, w11, w12, w13, w17, S0, S1, S2, S3, S4, S5, S6, S7, S8, S9, S10, S11, S12, S13, S14, S15, opv, opvs, eget, env0, setD, lenStr, lenSl, isNilP, isNilS, putAt, if_true, if_false, reduceCtorEq, Nat.reduceLeDiff, Nat.reduceEqDiff, Nat.reduceSub, Nat.reduceMul, Nat.reduceAdd]
  refine hQ _ ?_ ?_ ?_ <;> simp -implicitDefEqProofs only [g0, g5, g1, S0, S1, S2, S3, S4, S5, S6, S7, S8, S9, S10, S11, S12, S13, S14, S15, opv, opvs, eget, env0, setD, lenStr, lenSl, isNilP, isNilS, putAt, if_true, if_false, reduceCtorEq, Nat.reduceLeDiff, Nat.reduceEqDiff, Nat.reduceSub, Nat.reduceMul, Nat.reduceAdd]
theorem i_heldRecorderS : Is Try.prog 117 187 [(.tmp 4)] (tMarkS 186 c_heldRecorderS) := ⟨_, _, Try.func117, by decide +kernel, rfl, rfl, by kernel_rfl, rfl⟩
theorem heldRecorderS : HeldOk Try.prog markTxt 117 (.sl 18 shRecorder) := heldS_ok rfl (by decide) (by decide) i_heldRecorderS row_heldRecorderS
def c_laws_markRecWorld : C := (.seq (.ops [⟨(some 2), none, (.box (.t 0))⟩, ⟨(some 4), none, (.mv (.c (.t (.int .i64 0))))⟩]) (.seq (.ops [⟨(some 5), none, (.fieldAddr 0 (.t 2))⟩, ⟨(some 6), none, (.load none (.t 5))⟩, ⟨(some 7), none, (.mv (.t 1))⟩, ⟨(some 8), none, (.call (.c (.fn (.func 115) [])) [(.t 6), (.t 7)])⟩, ⟨(some 1), none, (.mv (.t 8))⟩]) (.seq (.ops [⟨(some 9), none, (.fieldAddr 1 (.t 2))⟩, ⟨(some 10), none, (.load none (.t 9))⟩, ⟨(some 11), none, (.mv (.t 1))⟩, ⟨(some 12), none, (.call (.c (.fn (.func 92) [])) [(.t 10), (.t 11)])⟩, ⟨(some 1), none, (.mv (.t 12))⟩]) (.seq (.ops [⟨(some 13), none, (.fieldAddr 2 (.t 2))⟩, ⟨(some 14), none, (.load none (.t 13))⟩, ⟨(some 15), none, (.mv (.t 1))⟩, ⟨(some 16), none, (.call (.c (.fn (.func 116) [])) [(.t 14), (.t 15)])⟩, ⟨(some 1), none, (.mv (.t 16))⟩]) (.seq (.ops [⟨(some 17), none, (.mv (.t 1))⟩, ⟨(some 4), none, (.mv (.t 17))⟩]) .ret)))))
theorem k_laws_markRecWorld : comp Try.prog 18 (Try.f50.body.getD .skip) = some c_laws_markRecWorld := by kernel_rfl

theorem markRecWorld : MarkLOk Try.prog markTxt 50 shRecWorld := by
  rintro ts us is k σ hT hz hO hnd hk hlt
  obtain ⟨n0, n1, n2, rfl, b0, b1, b2⟩ := isRecWorld hT
  rw [sizeRecWorld] at hz
  have hm : T.mkVL markTxt k [n0, n1, n2] = ([(T.mk markTxt k n0).1, (T.mk markTxt (T.mk markTxt k n0).2 n1).1, (T.mk markTxt (T.mk markTxt (T.mk markTxt k n0).2 n1).2 n2).1], (T.mk markTxt (T.mk markTxt (T.mk markTxt k n0).2 n1).2 n2).2) := by simp only [mkVL_cons, mkVL_nil, mkV_int, mkV_bool, mkV_str, mkV_sl b0, mkV_sl b1, mkV_sl b2]
  rw [hm] at hlt ⊢
  simp only at hlt ⊢
  clear hm
  obtain ⟨u0, _, j0, _, rfl, rfl, o0, hO0⟩ := oc_lst hO
  clear hO
  obtain ⟨u1, _, j1, _, rfl, rfl, o1, hO1⟩ := oc_lst hO0
  clear hO0
  obtain ⟨u2, _, j2, _, rfl, rfl, o2, hO2⟩ := oc_lst hO1
  clear hO1
  obtain ⟨rfl, rfl⟩ := oc_nil hO2
  have l0 := mk_le (mt := markTxt) (k := k) (t := n0)
  have l1 := mk_le (mt := markTxt) (k := (T.mk markTxt k n0).2) (t := n1)
  have l2 := mk_le (mt := markTxt) (k := (T.mk markTxt (T.mk markTxt k n0).2 n1).2) (t := n2)
  refine acalls_of Try.func50 (by decide +kernel) (code := Try.f50.body.getD .skip) (n := 18) (c := c_laws_markRecWorld) (rs := [(.tmp 4)]) rfl rfl k_laws_markRecWorld (by kernel_rfl) (by simp) (fun hσ => ?_)
  obtain ⟨nd0, rest0, dj0, dk0⟩ := nd_app hnd
  obtain ⟨nd1, rest1, dj1, dk1⟩ := nd_app rest0
  obtain ⟨nd2, rest2, dj2, dk2⟩ := nd_app rest1
  have U0 : Own σ n0 u0 j0 := o0
  have N0 := nd0
  have lt0 := U0.lt
  have U1 : Own σ n1 u1 j1 := o1
  have N1 := nd1
  have lt1 := U1.lt
  have U2 : Own σ n2 u2 j2 := o2
  have N2 := nd2
  have lt2 := U2.lt
  simp -implicitDefEqProofs only [c_laws_markRecWorld, one_cells o0.one, o0.one, one_cells o1.one, o1.one, one_cells o2.one, o2.one, S0, S1, S2, S3, S4, S5, S6, S7, S8, S9, S10, S11, S12, S13, S14, S15, opv, opvs, eget, env0, setD, lenStr, lenSl, isNilP, isNilS, putAt, if_true, if_false, reduceCtorEq, Nat.reduceLeDiff, Nat.reduceEqDiff, Nat.reduceSub, Nat.reduceMul, Nat.reduceAdd]
  refine call_by (by rw [List.append_nil]; exact markRecorderS n0 u0 j0 k _ b0 (by omega) (U0.pre (List.prefix_append _ _)) N0 (by omega) (by omega)) ?_
  rintro r' σ0 ⟨rfl, q0, y0, f0⟩
  have eb0 := f0 σ.length (by first | simp | (simp only [List.length_append, List.length_cons, List.length_nil] at *; omega)) (fun h => Nat.lt_irrefl _ (lt0 _ h))
  rw [q_app_get0] at eb0
  simp only [List.getElem?_cons_zero] at eb0
  simp -implicitDefEqProofs only [eb0, one_cells o0.one, o0.one, one_cells o1.one, o1.one, one_cells o2.one, o2.one, S0, S1, S2, S3, S4, S5, S6, S7, S8, S9, S10, S11, S12, S13, S14, S15, opv, opvs, eget, env0, setD, lenStr, lenSl, isNilP, isNilS, putAt, if_true, if_false, reduceCtorEq, Nat.reduceLeDiff, Nat.reduceEqDiff, Nat.reduceSub, Nat.reduceMul, Nat.reduceAdd]
  refine call_by (by rw [List.append_nil]; exact markRecMessageS n1 u1 j1 (T.mk markTxt k n0).2 _ b1 (by omega) ((U1.pre (List.prefix_append _ _)).other f0 (by intro x hx h; (try simp only [List.mem_append, List.not_mem_nil, or_false] at hx); (try simp only [List.mem_append, List.not_mem_nil, or_false] at h); exact dj0 x h (by simp [hx]))) N1 (by omega) (by omega)) ?_
  rintro r' σ1 ⟨rfl, q1, y1, f1⟩
  have eb1 := f1 σ.length (by first | simp | (simp only [List.length_append, List.length_cons, List.length_nil] at *; omega)) (fun h => Nat.lt_irrefl _ (lt1 _ h))
  rw [eb0] at eb1
  simp -implicitDefEqProofs only [eb1, eb0, one_cells o0.one, o0.one, one_cells o1.one, o1.one, one_cells o2.one, o2.one, S0, S1, S2, S3, S4, S5, S6, S7, S8, S9, S10, S11, S12, S13, S14, S15, opv, opvs, eget, env0, setD, lenStr, lenSl, isNilP, isNilS, putAt, if_true, if_false, reduceCtorEq, Nat.reduceLeDiff, Nat.reduceEqDiff, Nat.reduceSub, Nat.reduceMul, Nat.reduceAdd]
  refine call_by (by rw [List.append_nil]; exact markRecFixS n2 u2 j2 (T.mk markTxt (T.mk markTxt k n0).2 n1).2 _ b2 (by omega) (((U2.pre (List.prefix_append _ _)).other f0 (by intro x hx h; (try simp only [List.mem_append, List.not_mem_nil, or_false] at hx); (try simp only [List.mem_append, List.not_mem_nil, or_false] at h); exact dj0 x h (by simp [hx]))).other f1 (by intro x hx h; (try simp only [List.mem_append, List.not_mem_nil, or_false] at hx); (try simp only [List.mem_append, List.not_mem_nil, or_false] at h); exact dj1 x h (by simp [hx]))) N2 (by omega) (by omega)) ?_
  rintro r' σ2 ⟨rfl, q2, y2, f2⟩
  have eb2 := f2 σ.length (by first | simp | (simp only [List.length_append, List.length_cons, List.length_nil] at *; omega)) (fun h => Nat.lt_irrefl _ (lt2 _ h))
  rw [eb1] at eb2
  simp -implicitDefEqProofs only [eb2, eb1, eb0, one_cells o0.one, o0.one, one_cells o1.one, o1.one, one_cells o2.one, o2.one, S0, S1, S2, S3, S4, S5, S6, S7, S8, S9, S10, S11, S12, S13, S14, S15, opv, opvs, eget, env0, setD, lenStr, lenSl, isNilP, isNilS, putAt, if_true, if_false, reduceCtorEq, Nat.reduceLeDiff, Nat.reduceEqDiff, Nat.reduceSub, Nat.reduceMul, Nat.reduceAdd]
  have hf : OwnL _ [(T.mk markTxt k n0).1, (T.mk markTxt (T.mk markTxt k n0).2 n1).1, (T.mk markTxt (T.mk markTxt (T.mk markTxt k n0).2 n1).2 n2).1] [u0, u1, u2] _ := (OwnL.lst ((q0.other f1 (by intro x hx h; (try simp only [List.mem_append, List.not_mem_nil, or_false] at hx); (try simp only [List.mem_append, List.not_mem_nil, or_false] at h); exact dj0 x hx (by simp [h]))).other f2 (by intro x hx h; (try simp only [List.mem_append, List.not_mem_nil, or_false] at hx); (try simp only [List.mem_append, List.not_mem_nil, or_false] at h); exact dj0 x hx (by simp [h]))) (OwnL.lst (q1.other f2 (by intro x hx h; (try simp only [List.mem_append, List.not_mem_nil, or_false] at hx); (try simp only [List.mem_append, List.not_mem_nil, or_false] at h); exact dj1 x hx (by simp [h]))) (OwnL.lst q2 OwnL.nil0)))
  try simp only [List.append_assoc, List.append_nil, List.nil_append] at hf
  try simp only [List.append_assoc, List.append_nil, List.nil_append]
  simp only [List.length_append, List.length_cons, List.length_nil] at y0 y1 y2
  refine fin_keep (by omega) ⟨by simp [mkRes], hf, by omega, fun j hj hn => ?_⟩
  try simp only [List.mem_append, List.not_mem_nil, not_or, not_false_eq_true, and_true, or_false] at hn
  rw [f2 j (by first | omega | (simp only [List.length_append, List.length_cons, List.length_nil]; omega)) (by first | exact hn | simp [hn])]
  rw [f1 j (by first | omega | (simp only [List.length_append, List.length_cons, List.length_nil]; omega)) (by first | exact hn | simp [hn])]
  rw [f0 j (by first | omega | (simp only [List.length_append, List.length_cons, List.length_nil]; omega)) (by first | exact hn | simp [hn])]
  rw [List.getElem?_append_left hj]
def c_laws_heldRecWorld : C := (.seq (.ops [⟨(some 2), none, (.box (.t 0))⟩, ⟨(some 4), none, (.mv (.c (.t (.int .i64 0))))⟩]) (.seq (.ops [⟨(some 5), none, (.fieldAddr 0 (.t 2))⟩, ⟨(some 6), none, (.load none (.t 5))⟩, ⟨(some 7), none, (.mv (.t 1))⟩, ⟨(some 8), none, (.call (.c (.fn (.func 117) [])) [(.t 6), (.t 7)])⟩, ⟨(some 1), none, (.mv (.t 8))⟩]) (.seq (.seq (.ops [⟨(some 9), none, (.mv (.t 1))⟩, ⟨(some 10), none, (.bin .lss (.t 9) (.c (.t (.int .i64 0))))⟩]) (.cond (.t 10) (.seq (.ops [⟨(some 4), none, (.mv (.c (.t (.int .i64 (-1)))))⟩]) .ret) .skip)) (.seq (.ops [⟨(some 11), none, (.fieldAddr 1 (.t 2))⟩, ⟨(some 12), none, (.load none (.t 11))⟩, ⟨(some 13), none, (.mv (.t 1))⟩, ⟨(some 14), none, (.call (.c (.fn (.func 96) [])) [(.t 12), (.t 13)])⟩, ⟨(some 1), none, (.mv (.t 14))⟩]) (.seq (.seq (.ops [⟨(some 15), none, (.mv (.t 1))⟩, ⟨(some 16), none, (.bin .lss (.t 15) (.c (.t (.int .i64 0))))⟩]) (.cond (.t 16) (.seq (.ops [⟨(some 4), none, (.mv (.c (.t (.int .i64 (-1)))))⟩]) .ret) .skip)) (.seq (.ops [⟨(some 17), none, (.fieldAddr 2 (.t 2))⟩, ⟨(some 18), none, (.load none (.t 17))⟩, ⟨(some 19), none, (.mv (.t 1))⟩, ⟨(some 20), none, (.call (.c (.fn (.func 118) [])) [(.t 18), (.t 19)])⟩, ⟨(some 1), none, (.mv (.t 20))⟩]) (.seq (.seq (.ops [⟨(some 21), none, (.mv (.t 1))⟩, ⟨(some 22), none, (.bin .lss (.t 21) (.c (.t (.int .i64 0))))⟩]) (.cond (.t 22) (.seq (.ops [⟨(some 4), none, (.mv (.c (.t (.int .i64 (-1)))))⟩]) .ret) .skip)) (.seq (.ops [⟨(some 23), none, (.mv (.t 1))⟩, ⟨(some 4), none, (.mv (.t 23))⟩]) .ret))))))))
theorem k_laws_heldRecWorld : comp Try.prog 24 (Try.f51.body.getD .skip) = some c_laws_heldRecWorld := by kernel_rfl

theorem heldRecWorld : HeldLOk Try.prog markTxt 51 shRecWorld := by
  rintro ts k σ hT hz hk hlt
  obtain ⟨n0, n1, n2, rfl, b0, b1, b2⟩ := isRecWorld hT
  rw [sizeRecWorld] at hz
  have hm : T.mkVL markTxt k [n0, n1, n2] = ([(T.mk markTxt k n0).1, (T.mk markTxt (T.mk markTxt k n0).2 n1).1, (T.mk markTxt (T.mk markTxt (T.mk markTxt k n0).2 n1).2 n2).1], (T.mk markTxt (T.mk markTxt (T.mk markTxt k n0).2 n1).2 n2).2) := by simp only [mkVL_cons, mkVL_nil, mkV_int, mkV_bool, mkV_str, mkV_sl b0, mkV_sl b1, mkV_sl b2]
  rw [hm] at hlt ⊢
  simp only at hlt ⊢
  clear hm
  have l0 := mk_le (mt := markTxt) (k := k) (t := n0)
  have l1 := mk_le (mt := markTxt) (k := (T.mk markTxt k n0).2) (t := n1)
  have l2 := mk_le (mt := markTxt) (k := (T.mk markTxt (T.mk markTxt k n0).2 n1).2) (t := n2)
  refine acalls_of Try.func51 (by decide +kernel) (code := Try.f51.body.getD .skip) (n := 24) (c := c_laws_heldRecWorld) (rs := [(.tmp 4)]) rfl rfl k_laws_heldRecWorld (by kernel_rfl) (by simp) (fun hσ => ?_)
  have H0 := fun σ' => heldRecorderS n0 k σ' b0 (by omega) (by omega) (by omega)
  have H1 := fun σ' => heldRecMessageS n1 (T.mk markTxt k n0).2 σ' b1 (by omega) (by omega) (by omega)
  have H2 := fun σ' => heldRecFixS n2 (T.mk markTxt (T.mk markTxt k n0).2 n1).2 σ' b2 (by omega) (by omega) (by omega)
  simp -implicitDefEqProofs only [c_laws_heldRecWorld, nat_neg, S0, S1, S2, S3, S4, S5, S6, S7, S8, S9, S10, S11, S12, S13, S14, S15, opv, opvs, eget, env0, setD, lenStr, lenSl, isNilP, isNilS, putAt, if_true, if_false, reduceCtorEq, Nat.reduceLeDiff, Nat.reduceEqDiff, Nat.reduceSub, Nat.reduceMul, Nat.reduceAdd]
  refine call_pure (H0 _) ?_
  simp -implicitDefEqProofs only [nat_neg, S0, S1, S2, S3, S4, S5, S6, S7, S8, S9, S10, S11, S12, S13, S14, S15, opv, opvs, eget, env0, setD, lenStr, lenSl, isNilP, isNilS, putAt, if_true, if_false, reduceCtorEq, Nat.reduceLeDiff, Nat.reduceEqDiff, Nat.reduceSub, Nat.reduceMul, Nat.reduceAdd]
  refine call_pure (H1 _) ?_
  simp -implicitDefEqProofs only [nat_neg, S0, S1, S2, S3, S4, S5, S6, S7, S8, S9, S10, S11, S12, S13, S14, S15, opv, opvs, eget, env0, setD, lenStr, lenSl, isNilP, isNilS, putAt, if_true, if_false, reduceCtorEq, Nat.reduceLeDiff, Nat.reduceEqDiff, Nat.reduceSub, Nat.reduceMul, Nat.reduceAdd]
  refine call_pure (H2 _) ?_
  simp -implicitDefEqProofs only [nat_neg, S0, S1, S2, S3, S4, S5, S6, S7, S8, S9, S10, S11, S12, S13, S14, S15, opv, opvs, eget, env0, setD, lenStr, lenSl, isNilP, isNilS, putAt, if_true, if_false, reduceCtorEq, Nat.reduceLeDiff, Nat.reduceEqDiff, Nat.reduceSub, Nat.reduceMul, Nat.reduceAdd]
  exact ret_same rfl hσ rfl ⟨rfl, rfl⟩
end Go.Proofs.Ytleilaipdhmgeaa.W

end
