/- What the laws' own helpers do with these structs: sizes, copies, comparing (printed by laws.py). Conditions: none. -/
/- The program's structs as Lean structures, their trees (printed by types.py). Conditions: none. -/
import Derived.Test.YtelpmllnallilaaDoorAb3
import Derived.IntWalk
import Derived.Test.YtelpmllnallilaaDoorProg
import Derived.KernelRfl
set_option linter.unusedSimpArgs false
set_option linter.unusedVariables false
set_option linter.defProp false

section
open Go Go.Ab
set_option maxHeartbeats 4000000
set_option maxRecDepth 20000
namespace Go.Proofs.YtelpmllnallilaaDoor.W
theorem i_szStringS : Is Tryd.prog 12 28 [(.tmp 4)] (tSzStr) := ⟨_, _, Tryd.func12, by decide +kernel, rfl, rfl, by kernel_rfl, rfl⟩
theorem szStringS : SzOk Tryd.prog 12 (.sl 1 [.str]) := szStr_ok i_szStringS
theorem i_eqStringS : Is Tryd.prog 17 26 [(.tmp 4)] (tEq1) := ⟨_, _, Tryd.func17, by decide +kernel, rfl, rfl, by kernel_rfl, rfl⟩
theorem eqStringS : EqOk Tryd.prog 17 (.sl 1 [.str]) := eqStr_ok i_eqStringS
theorem i_toStringS : Is Tryd.prog 14 22 [(.tmp 2)] (tTo1 16 [.t (.str [])]) := ⟨_, _, Tryd.func14, by decide +kernel, rfl, rfl, by kernel_rfl, rfl⟩
theorem toStringS : ToOk Tryd.prog 14 (.sl 1 [.str]) := to1_ok 16 [.t (.str [])] sc_str rfl (by decide) i_toStringS
def shGateObject : List Sh := [.str, .str, .str, .sl 1 [.str], .bool, .sl 1 [.str], .int .i64]
theorem isGateObject {ts : List T} (ht : T.isL shGateObject ts) : ∃ n0 n1 n2 n3 n4 n5 n6, ts = [(.str n0), (.str n1), (.str n2), n3, (.bool n4), n5, (.int .i64 n6)] ∧ n0.length ≤ maxLen ∧ n1.length ≤ maxLen ∧ n2.length ≤ maxLen ∧ T.is (.sl 1 [.str]) n3 ∧ T.is (.sl 1 [.str]) n5 ∧ (Lit.int .i64 n6).wf = true := by
  simp only [shGateObject, isL_cons, isL_nil, is_int, is_bool, is_str] at ht
  obtain ⟨_, _, rfl, ⟨n0, rfl, b0⟩, _, _, rfl, ⟨n1, rfl, b1⟩, _, _, rfl, ⟨n2, rfl, b2⟩, n3, _, rfl, b3, _, _, rfl, ⟨n4, rfl⟩, n5, _, rfl, b5, _, _, rfl, ⟨n6, rfl, b6⟩, rfl⟩ := ht
  exact ⟨_, _, _, _, _, _, _, rfl, b0, b1, b2, b3, b5, b6⟩
theorem sizeGateObject {n0} {n1} {n2} {n3} {n4} {n5} {n6} : T.sizeL [(.str n0), (.str n1), (.str n2), n3, (.bool n4), n5, (.int .i64 n6)] = n0.length + n1.length + n2.length + n3.size + n5.size := by
  simp only [sizeL_cons, sizeL_nil, size_int, size_bool, size_str]
  try omega
def c_laws_szGateObject : C := (.seq (.ops [⟨(some 2), none, (.box (.t 0))⟩, ⟨(some 4), none, (.mv (.c (.t (.int .i64 0))))⟩]) (.seq (.ops [⟨(some 5), none, (.mv (.t 1))⟩, ⟨(some 6), none, (.fieldAddr 0 (.t 2))⟩, ⟨(some 7), none, (.load none (.t 6))⟩, ⟨(some 8), none, (.len true (.t 7))⟩, ⟨(some 9), none, (.bin .sub (.t 5) (.t 8))⟩, ⟨(some 1), none, (.mv (.t 9))⟩]) (.seq (.seq (.ops [⟨(some 10), none, (.mv (.t 1))⟩, ⟨(some 11), none, (.bin .lss (.t 10) (.c (.t (.int .i64 0))))⟩]) (.cond (.t 11) (.seq (.ops [⟨(some 4), none, (.mv (.c (.t (.int .i64 (-1)))))⟩]) .ret) .skip)) (.seq (.ops [⟨(some 12), none, (.mv (.t 1))⟩, ⟨(some 13), none, (.fieldAddr 1 (.t 2))⟩, ⟨(some 14), none, (.load none (.t 13))⟩, ⟨(some 15), none, (.len true (.t 14))⟩, ⟨(some 16), none, (.bin .sub (.t 12) (.t 15))⟩, ⟨(some 1), none, (.mv (.t 16))⟩]) (.seq (.seq (.ops [⟨(some 17), none, (.mv (.t 1))⟩, ⟨(some 18), none, (.bin .lss (.t 17) (.c (.t (.int .i64 0))))⟩]) (.cond (.t 18) (.seq (.ops [⟨(some 4), none, (.mv (.c (.t (.int .i64 (-1)))))⟩]) .ret) .skip)) (.seq (.ops [⟨(some 19), none, (.mv (.t 1))⟩, ⟨(some 20), none, (.fieldAddr 2 (.t 2))⟩, ⟨(some 21), none, (.load none (.t 20))⟩, ⟨(some 22), none, (.len true (.t 21))⟩, ⟨(some 23), none, (.bin .sub (.t 19) (.t 22))⟩, ⟨(some 1), none, (.mv (.t 23))⟩]) (.seq (.seq (.ops [⟨(some 24), none, (.mv (.t 1))⟩, ⟨(some 25), none, (.bin .lss (.t 24) (.c (.t (.int .i64 0))))⟩]) (.cond (.t 25) (.seq (.ops [⟨(some 4), none, (.mv (.c (.t (.int .i64 (-1)))))⟩]) .ret) .skip)) (.seq (.ops [⟨(some 26), none, (.fieldAddr 3 (.t 2))⟩, ⟨(some 27), none, (.load none (.t 26))⟩, ⟨(some 28), none, (.mv (.t 1))⟩, ⟨(some 29), none, (.call (.c (.fn (.func 12) [])) [(.t 27), (.t 28)])⟩, ⟨(some 1), none, (.mv (.t 29))⟩]) (.seq (.seq (.ops [⟨(some 30), none, (.mv (.t 1))⟩, ⟨(some 31), none, (.bin .lss (.t 30) (.c (.t (.int .i64 0))))⟩]) (.cond (.t 31) (.seq (.ops [⟨(some 4), none, (.mv (.c (.t (.int .i64 (-1)))))⟩]) .ret) .skip)) (.seq (.ops [⟨(some 32), none, (.fieldAddr 5 (.t 2))⟩, ⟨(some 33), none, (.load none (.t 32))⟩, ⟨(some 34), none, (.mv (.t 1))⟩, ⟨(some 35), none, (.call (.c (.fn (.func 12) [])) [(.t 33), (.t 34)])⟩, ⟨(some 1), none, (.mv (.t 35))⟩]) (.seq (.seq (.ops [⟨(some 36), none, (.mv (.t 1))⟩, ⟨(some 37), none, (.bin .lss (.t 36) (.c (.t (.int .i64 0))))⟩]) (.cond (.t 37) (.seq (.ops [⟨(some 4), none, (.mv (.c (.t (.int .i64 (-1)))))⟩]) .ret) .skip)) (.seq (.ops [⟨(some 38), none, (.mv (.t 1))⟩, ⟨(some 4), none, (.mv (.t 38))⟩]) .ret))))))))))))
theorem k_laws_szGateObject : comp Tryd.prog 39 (Tryd.f4.body.getD .skip) = some c_laws_szGateObject := by kernel_rfl

theorem szGateObject : SzLOk Tryd.prog 4 shGateObject := by
  rintro ts left σ ht h0 h1
  obtain ⟨n0, n1, n2, n3, n4, n5, n6, rfl, b0, b1, b2, b3, b5, b6⟩ := isGateObject ht
  refine acalls_of Tryd.func4 (by decide +kernel) (code := Tryd.f4.body.getD .skip) (n := 39) (c := c_laws_szGateObject) (rs := [(.tmp 4)]) rfl rfl k_laws_szGateObject (by kernel_rfl) (by simp) (fun hσ => ?_)
  try simp only [maxLen] at *
  have fin : ∀ {n : Int} {τ : Store}, n ≤ left → (0 ≤ n → ((n0.length + n1.length + n2.length + n3.size + n5.size : Nat) : Int) + n ≤ left) → retV σ.length (SzR (T.sizeL [(.str n0), (.str n1), (.str n2), n3, (.bool n4), n5, (.int .i64 n6)]) left σ) (σ ++ τ) (some [.t (.int .i64 n)]) := fun h h' => ret_same rfl hσ rfl ⟨⟨_, rfl, h, fun h0 => by have := h' h0; rw [sizeGateObject]; exact this⟩, rfl⟩
  have w0 : IntKind.i64.wrap (left - n0.length) = left - n0.length := IntWalk.i64_in _ (by omega)
  simp -implicitDefEqProofs only [c_laws_szGateObject, w0, S0, S1, S2, S3, S4, S5, S6, S7, S8, S9, S10, S11, S12, S13, S14, S15, S16, S17, opv, opvs, eget, env0, setD, lenStr, lenSl, isNilP, isNilS, putAt, if_true, if_false, reduceCtorEq, Nat.reduceLeDiff, Nat.reduceEqDiff, Nat.reduceSub, Nat.reduceMul, Nat.reduceAdd]
  refine cond_split (fun h => ?_) (fun h => ?_)
  · simp -implicitDefEqProofs only [S0, S1, S2, S3, S4, S5, S6, S7, S8, S9, S10, S11, S12, S13, S14, S15, S16, S17, opv, opvs, eget, env0, setD, lenStr, lenSl, isNilP, isNilS, putAt, if_true, if_false, reduceCtorEq, Nat.reduceLeDiff, Nat.reduceEqDiff, Nat.reduceSub, Nat.reduceMul, Nat.reduceAdd]
    simp only [decide_eq_true_eq] at h
    exact fin (by omega) (by omega)
  simp only [decide_eq_false_iff_not, Int.not_lt] at h
  have w1 : IntKind.i64.wrap ((left - n0.length) - n1.length) = (left - n0.length) - n1.length := IntWalk.i64_in _ (by omega)
  simp -implicitDefEqProofs only [w1, S0, S1, S2, S3, S4, S5, S6, S7, S8, S9, S10, S11, S12, S13, S14, S15, S16, S17, opv, opvs, eget, env0, setD, lenStr, lenSl, isNilP, isNilS, putAt, if_true, if_false, reduceCtorEq, Nat.reduceLeDiff, Nat.reduceEqDiff, Nat.reduceSub, Nat.reduceMul, Nat.reduceAdd]
  refine cond_split (fun h => ?_) (fun h => ?_)
  · simp -implicitDefEqProofs only [S0, S1, S2, S3, S4, S5, S6, S7, S8, S9, S10, S11, S12, S13, S14, S15, S16, S17, opv, opvs, eget, env0, setD, lenStr, lenSl, isNilP, isNilS, putAt, if_true, if_false, reduceCtorEq, Nat.reduceLeDiff, Nat.reduceEqDiff, Nat.reduceSub, Nat.reduceMul, Nat.reduceAdd]
    simp only [decide_eq_true_eq] at h
    exact fin (by omega) (by omega)
  simp only [decide_eq_false_iff_not, Int.not_lt] at h
  have w2 : IntKind.i64.wrap (((left - n0.length) - n1.length) - n2.length) = ((left - n0.length) - n1.length) - n2.length := IntWalk.i64_in _ (by omega)
  simp -implicitDefEqProofs only [w2, S0, S1, S2, S3, S4, S5, S6, S7, S8, S9, S10, S11, S12, S13, S14, S15, S16, S17, opv, opvs, eget, env0, setD, lenStr, lenSl, isNilP, isNilS, putAt, if_true, if_false, reduceCtorEq, Nat.reduceLeDiff, Nat.reduceEqDiff, Nat.reduceSub, Nat.reduceMul, Nat.reduceAdd]
  refine cond_split (fun h => ?_) (fun h => ?_)
  · simp -implicitDefEqProofs only [S0, S1, S2, S3, S4, S5, S6, S7, S8, S9, S10, S11, S12, S13, S14, S15, S16, S17, opv, opvs, eget, env0, setD, lenStr, lenSl, isNilP, isNilS, putAt, if_true, if_false, reduceCtorEq, Nat.reduceLeDiff, Nat.reduceEqDiff, Nat.reduceSub, Nat.reduceMul, Nat.reduceAdd]
    simp only [decide_eq_true_eq] at h
    exact fin (by omega) (by omega)
  simp only [decide_eq_false_iff_not, Int.not_lt] at h
  simp -implicitDefEqProofs only [S0, S1, S2, S3, S4, S5, S6, S7, S8, S9, S10, S11, S12, S13, S14, S15, S16, S17, opv, opvs, eget, env0, setD, lenStr, lenSl, isNilP, isNilS, putAt, if_true, if_false, reduceCtorEq, Nat.reduceLeDiff, Nat.reduceEqDiff, Nat.reduceSub, Nat.reduceMul, Nat.reduceAdd]
  refine call_by (by rw [List.append_nil]; exact szStringS n3 (((left - n0.length) - n1.length) - n2.length) _ b3 (by omega) (by omega)) ?_
  rintro r σ' ⟨⟨m3, rfl, hm3, hs3⟩, rfl⟩
  try simp only [sizeGateObject] at hs3
  simp -implicitDefEqProofs only [S0, S1, S2, S3, S4, S5, S6, S7, S8, S9, S10, S11, S12, S13, S14, S15, S16, S17, opv, opvs, eget, env0, setD, lenStr, lenSl, isNilP, isNilS, putAt, if_true, if_false, reduceCtorEq, Nat.reduceLeDiff, Nat.reduceEqDiff, Nat.reduceSub, Nat.reduceMul, Nat.reduceAdd]
  refine cond_split (fun h => ?_) (fun h => ?_)
  · simp -implicitDefEqProofs only [S0, S1, S2, S3, S4, S5, S6, S7, S8, S9, S10, S11, S12, S13, S14, S15, S16, S17, opv, opvs, eget, env0, setD, lenStr, lenSl, isNilP, isNilS, putAt, if_true, if_false, reduceCtorEq, Nat.reduceLeDiff, Nat.reduceEqDiff, Nat.reduceSub, Nat.reduceMul, Nat.reduceAdd]
    simp only [decide_eq_true_eq] at h
    exact fin (by omega) (by omega)
  simp only [decide_eq_false_iff_not, Int.not_lt] at h
  replace hs3 := hs3 h
  simp -implicitDefEqProofs only [S0, S1, S2, S3, S4, S5, S6, S7, S8, S9, S10, S11, S12, S13, S14, S15, S16, S17, opv, opvs, eget, env0, setD, lenStr, lenSl, isNilP, isNilS, putAt, if_true, if_false, reduceCtorEq, Nat.reduceLeDiff, Nat.reduceEqDiff, Nat.reduceSub, Nat.reduceMul, Nat.reduceAdd]
  refine call_by (by rw [List.append_nil]; exact szStringS n5 m3 _ b5 (by omega) (by omega)) ?_
  rintro r σ' ⟨⟨m5, rfl, hm5, hs5⟩, rfl⟩
  try simp only [sizeGateObject] at hs5
  simp -implicitDefEqProofs only [S0, S1, S2, S3, S4, S5, S6, S7, S8, S9, S10, S11, S12, S13, S14, S15, S16, S17, opv, opvs, eget, env0, setD, lenStr, lenSl, isNilP, isNilS, putAt, if_true, if_false, reduceCtorEq, Nat.reduceLeDiff, Nat.reduceEqDiff, Nat.reduceSub, Nat.reduceMul, Nat.reduceAdd]
  refine cond_split (fun h => ?_) (fun h => ?_)
  · simp -implicitDefEqProofs only [S0, S1, S2, S3, S4, S5, S6, S7, S8, S9, S10, S11, S12, S13, S14, S15, S16, S17, opv, opvs, eget, env0, setD, lenStr, lenSl, isNilP, isNilS, putAt, if_true, if_false, reduceCtorEq, Nat.reduceLeDiff, Nat.reduceEqDiff, Nat.reduceSub, Nat.reduceMul, Nat.reduceAdd]
    simp only [decide_eq_true_eq] at h
    exact fin (by omega) (by omega)
  simp only [decide_eq_false_iff_not, Int.not_lt] at h
  replace hs5 := hs5 h
  simp -implicitDefEqProofs only [S0, S1, S2, S3, S4, S5, S6, S7, S8, S9, S10, S11, S12, S13, S14, S15, S16, S17, opv, opvs, eget, env0, setD, lenStr, lenSl, isNilP, isNilS, putAt, if_true, if_false, reduceCtorEq, Nat.reduceLeDiff, Nat.reduceEqDiff, Nat.reduceSub, Nat.reduceMul, Nat.reduceAdd]
  exact fin (by omega) (fun _ => by omega)
def c_laws_eqGateObject : C := (.seq (.ops [⟨(some 2), none, (.box (.t 0))⟩, ⟨(some 3), none, (.box (.t 1))⟩, ⟨(some 4), none, (.mv (.c (.t (.bool false))))⟩]) (.seq (.seq (.ops [⟨(some 5), none, (.fieldAddr 0 (.t 2))⟩, ⟨(some 6), none, (.load none (.t 5))⟩, ⟨(some 7), none, (.fieldAddr 0 (.t 3))⟩, ⟨(some 8), none, (.load none (.t 7))⟩, ⟨(some 9), none, (.bin .neq (.t 6) (.t 8))⟩]) (.cond (.t 9) (.seq (.ops [⟨(some 4), none, (.mv (.c (.t (.bool false))))⟩]) .ret) .skip)) (.seq (.seq (.ops [⟨(some 10), none, (.fieldAddr 1 (.t 2))⟩, ⟨(some 11), none, (.load none (.t 10))⟩, ⟨(some 12), none, (.fieldAddr 1 (.t 3))⟩, ⟨(some 13), none, (.load none (.t 12))⟩, ⟨(some 14), none, (.bin .neq (.t 11) (.t 13))⟩]) (.cond (.t 14) (.seq (.ops [⟨(some 4), none, (.mv (.c (.t (.bool false))))⟩]) .ret) .skip)) (.seq (.seq (.ops [⟨(some 15), none, (.fieldAddr 2 (.t 2))⟩, ⟨(some 16), none, (.load none (.t 15))⟩, ⟨(some 17), none, (.fieldAddr 2 (.t 3))⟩, ⟨(some 18), none, (.load none (.t 17))⟩, ⟨(some 19), none, (.bin .neq (.t 16) (.t 18))⟩]) (.cond (.t 19) (.seq (.ops [⟨(some 4), none, (.mv (.c (.t (.bool false))))⟩]) .ret) .skip)) (.seq (.seq (.ops [⟨(some 20), none, (.fieldAddr 3 (.t 2))⟩, ⟨(some 21), none, (.load none (.t 20))⟩, ⟨(some 22), none, (.fieldAddr 3 (.t 3))⟩, ⟨(some 23), none, (.load none (.t 22))⟩, ⟨(some 24), none, (.call (.c (.fn (.func 17) [])) [(.t 21), (.t 23)])⟩, ⟨(some 25), none, (.un .not (.t 24))⟩]) (.cond (.t 25) (.seq (.ops [⟨(some 4), none, (.mv (.c (.t (.bool false))))⟩]) .ret) .skip)) (.seq (.seq (.ops [⟨(some 26), none, (.fieldAddr 4 (.t 2))⟩, ⟨(some 27), none, (.load none (.t 26))⟩, ⟨(some 28), none, (.fieldAddr 4 (.t 3))⟩, ⟨(some 29), none, (.load none (.t 28))⟩, ⟨(some 30), none, (.eqB true (.t 27) (.t 29))⟩]) (.cond (.t 30) (.seq (.ops [⟨(some 4), none, (.mv (.c (.t (.bool false))))⟩]) .ret) .skip)) (.seq (.seq (.ops [⟨(some 31), none, (.fieldAddr 5 (.t 2))⟩, ⟨(some 32), none, (.load none (.t 31))⟩, ⟨(some 33), none, (.fieldAddr 5 (.t 3))⟩, ⟨(some 34), none, (.load none (.t 33))⟩, ⟨(some 35), none, (.call (.c (.fn (.func 17) [])) [(.t 32), (.t 34)])⟩, ⟨(some 36), none, (.un .not (.t 35))⟩]) (.cond (.t 36) (.seq (.ops [⟨(some 4), none, (.mv (.c (.t (.bool false))))⟩]) .ret) .skip)) (.seq (.seq (.ops [⟨(some 37), none, (.fieldAddr 6 (.t 2))⟩, ⟨(some 38), none, (.load none (.t 37))⟩, ⟨(some 39), none, (.fieldAddr 6 (.t 3))⟩, ⟨(some 40), none, (.load none (.t 39))⟩, ⟨(some 41), none, (.bin .neq (.t 38) (.t 40))⟩]) (.cond (.t 41) (.seq (.ops [⟨(some 4), none, (.mv (.c (.t (.bool false))))⟩]) .ret) .skip)) (.seq (.ops [⟨(some 4), none, (.mv (.c (.t (.bool true))))⟩]) .ret)))))))))
theorem k_laws_eqGateObject : comp Tryd.prog 42 (Tryd.f11.body.getD .skip) = some c_laws_eqGateObject := by kernel_rfl

theorem eqGateObject : EqLOk Tryd.prog 11 shGateObject := by
  rintro ts σ ht h1
  obtain ⟨n0, n1, n2, n3, n4, n5, n6, rfl, b0, b1, b2, b3, b5, b6⟩ := isGateObject ht
  rw [sizeGateObject] at h1
  refine acalls_of Tryd.func11 (by decide +kernel) (code := Tryd.f11.body.getD .skip) (n := 42) (c := c_laws_eqGateObject) (rs := [(.tmp 4)]) rfl rfl k_laws_eqGateObject (by kernel_rfl) (by simp) (fun hσ => ?_)
  simp -implicitDefEqProofs only [c_laws_eqGateObject, ne_self, beq_self_eq_true, S0, S1, S2, S3, S4, S5, S6, S7, S8, S9, S10, S11, S12, S13, S14, S15, S16, S17, opv, opvs, eget, env0, setD, lenStr, lenSl, isNilP, isNilS, putAt, if_true, if_false, reduceCtorEq, Nat.reduceLeDiff, Nat.reduceEqDiff, Nat.reduceSub, Nat.reduceMul, Nat.reduceAdd]
  refine call_pure (eqStringS n3 _ b3 (by omega)) ?_
  simp -implicitDefEqProofs only [ne_self, beq_self_eq_true, S0, S1, S2, S3, S4, S5, S6, S7, S8, S9, S10, S11, S12, S13, S14, S15, S16, S17, opv, opvs, eget, env0, setD, lenStr, lenSl, isNilP, isNilS, putAt, if_true, if_false, reduceCtorEq, Nat.reduceLeDiff, Nat.reduceEqDiff, Nat.reduceSub, Nat.reduceMul, Nat.reduceAdd]
  refine call_pure (eqStringS n5 _ b5 (by omega)) ?_
  simp -implicitDefEqProofs only [ne_self, beq_self_eq_true, S0, S1, S2, S3, S4, S5, S6, S7, S8, S9, S10, S11, S12, S13, S14, S15, S16, S17, opv, opvs, eget, env0, setD, lenStr, lenSl, isNilP, isNilS, putAt, if_true, if_false, reduceCtorEq, Nat.reduceLeDiff, Nat.reduceEqDiff, Nat.reduceSub, Nat.reduceMul, Nat.reduceAdd]
  exact ret_same rfl hσ rfl ⟨rfl, rfl⟩
def c_laws_toGateObject : C := (.seq (.ops [⟨(some 1), none, (.box (.t 0))⟩, ⟨(some 2), none, (.new [(.t (.str [])), (.t (.str [])), (.t (.str [])), .nils, (.t (.bool false)), .nils, (.t (.int .i64 0))])⟩]) (.seq (.ops [⟨(some 3), none, (.new [(.t (.str [])), (.t (.str [])), (.t (.str [])), .nils, (.t (.bool false)), .nils, (.t (.int .i64 0))])⟩]) (.seq (.ops [⟨(some 4), none, (.fieldAddr 0 (.t 1))⟩, ⟨(some 5), none, (.load none (.t 4))⟩, ⟨(some 6), none, (.fieldAddr 0 (.t 3))⟩, ⟨none, none, (.store 1 (.t 6) (.t 5))⟩]) (.seq (.ops [⟨(some 7), none, (.fieldAddr 1 (.t 1))⟩, ⟨(some 8), none, (.load none (.t 7))⟩, ⟨(some 9), none, (.fieldAddr 1 (.t 3))⟩, ⟨none, none, (.store 1 (.t 9) (.t 8))⟩]) (.seq (.ops [⟨(some 10), none, (.fieldAddr 2 (.t 1))⟩, ⟨(some 11), none, (.load none (.t 10))⟩, ⟨(some 12), none, (.fieldAddr 2 (.t 3))⟩, ⟨none, none, (.store 1 (.t 12) (.t 11))⟩]) (.seq (.ops [⟨(some 13), none, (.fieldAddr 3 (.t 1))⟩, ⟨(some 14), none, (.load none (.t 13))⟩, ⟨(some 15), none, (.call (.c (.fn (.func 14) [])) [(.t 14)])⟩, ⟨(some 16), none, (.fieldAddr 3 (.t 3))⟩, ⟨none, none, (.store 1 (.t 16) (.t 15))⟩]) (.seq (.ops [⟨(some 17), none, (.fieldAddr 4 (.t 1))⟩, ⟨(some 18), none, (.load none (.t 17))⟩, ⟨(some 19), none, (.fieldAddr 4 (.t 3))⟩, ⟨none, none, (.store 1 (.t 19) (.t 18))⟩]) (.seq (.ops [⟨(some 20), none, (.fieldAddr 5 (.t 1))⟩, ⟨(some 21), none, (.load none (.t 20))⟩, ⟨(some 22), none, (.call (.c (.fn (.func 14) [])) [(.t 21)])⟩, ⟨(some 23), none, (.fieldAddr 5 (.t 3))⟩, ⟨none, none, (.store 1 (.t 23) (.t 22))⟩]) (.seq (.ops [⟨(some 24), none, (.fieldAddr 6 (.t 1))⟩, ⟨(some 25), none, (.load none (.t 24))⟩, ⟨(some 26), none, (.fieldAddr 6 (.t 3))⟩, ⟨none, none, (.store 1 (.t 26) (.t 25))⟩]) (.seq (.ops [⟨(some 27), none, (.load (some 7) (.t 3))⟩, ⟨none, none, (.store 7 (.t 2) (.t 27))⟩]) .ret))))))))))
theorem k_laws_toGateObject : comp Tryd.prog 28 (Tryd.f7.body.getD .skip) = some c_laws_toGateObject := by kernel_rfl

theorem toGateObject : ToLOk Tryd.prog 7 shGateObject := by
  rintro ts σ ht h1
  obtain ⟨n0, n1, n2, n3, n4, n5, n6, rfl, b0, b1, b2, b3, b5, b6⟩ := isGateObject ht
  rw [sizeGateObject] at h1
  refine acalls_of Tryd.func7 (by decide +kernel) (code := Tryd.f7.body.getD .skip) (n := 28) (c := c_laws_toGateObject) (rs := [(.cell 2 (some 7))]) rfl rfl k_laws_toGateObject (by kernel_rfl) (by simp) (fun hσ => ?_)
  simp -implicitDefEqProofs only [c_laws_toGateObject, S0, S1, S2, S3, S4, S5, S6, S7, S8, S9, S10, S11, S12, S13, S14, S15, S16, S17, opv, opvs, eget, env0, setD, lenStr, lenSl, isNilP, isNilS, putAt, if_true, if_false, reduceCtorEq, Nat.reduceLeDiff, Nat.reduceEqDiff, Nat.reduceSub, Nat.reduceMul, Nat.reduceAdd]
  refine call_by (by rw [List.append_nil]; exact toStringS n3 _ b3 (by omega)) ?_
  rintro u3 σ' ⟨τ3, j3, rfl, o3, w3⟩
  have e3 := o3.one
  simp -implicitDefEqProofs only [one_cells e3, e3, S0, S1, S2, S3, S4, S5, S6, S7, S8, S9, S10, S11, S12, S13, S14, S15, S16, S17, opv, opvs, eget, env0, setD, lenStr, lenSl, isNilP, isNilS, putAt, if_true, if_false, reduceCtorEq, Nat.reduceLeDiff, Nat.reduceEqDiff, Nat.reduceSub, Nat.reduceMul, Nat.reduceAdd]
  refine call_by (by rw [List.append_nil]; exact toStringS n5 _ b5 (by omega)) ?_
  rintro u5 σ' ⟨τ5, j5, rfl, o5, w5⟩
  have e5 := o5.one
  simp -implicitDefEqProofs only [one_cells e5, e3, e5, S0, S1, S2, S3, S4, S5, S6, S7, S8, S9, S10, S11, S12, S13, S14, S15, S16, S17, opv, opvs, eget, env0, setD, lenStr, lenSl, isNilP, isNilS, putAt, if_true, if_false, reduceCtorEq, Nat.reduceLeDiff, Nat.reduceEqDiff, Nat.reduceSub, Nat.reduceMul, Nat.reduceAdd]
  refine fin_keep (by simp) ⟨_, _, (j3 ++ (j5 ++ [])), rfl, rfl, (OwnL.str (OwnL.str (OwnL.str (OwnL.lst (own_pre (A := [_, _, _]) (A' := [_, _, _]) (B := τ3) (B' := (τ3 ++ τ5)) o3 w3 (List.append_assoc ..) rfl rfl (by simp) (by simp)) (OwnL.bool (OwnL.lst (own_pre (A := [_, _, _]) (A' := [_, _, _]) (B := (τ3 ++ τ5)) (B' := (τ3 ++ τ5)) o5 w5 (List.append_assoc ..) rfl rfl (by simp) (by simp)) (OwnL.int OwnL.nil0))))))), ?_⟩
  simp only [List.length_append, List.length_cons, List.length_nil] at w3 w5 ⊢
  refine Wi.mono (a := σ.length) ?_ (Nat.le_refl _) (Nat.le_refl _)
  exact wi_more w3 (wi_last w5 (by omega) (by omega)) (by omega) (by omega)
def shStewService : List Sh := [.str, .int .i64, .bool, .int .i64, .int .i64, .int .i64, .int .i64, .int .i64, .int .i64, .int .i64, .int .i64, .int .i64, .int .i64]
theorem isStewService {ts : List T} (ht : T.isL shStewService ts) : ∃ n0 n1 n2 n3 n4 n5 n6 n7 n8 n9 n10 n11 n12, ts = [(.str n0), (.int .i64 n1), (.bool n2), (.int .i64 n3), (.int .i64 n4), (.int .i64 n5), (.int .i64 n6), (.int .i64 n7), (.int .i64 n8), (.int .i64 n9), (.int .i64 n10), (.int .i64 n11), (.int .i64 n12)] ∧ n0.length ≤ maxLen ∧ (Lit.int .i64 n1).wf = true ∧ (Lit.int .i64 n3).wf = true ∧ (Lit.int .i64 n4).wf = true ∧ (Lit.int .i64 n5).wf = true ∧ (Lit.int .i64 n6).wf = true ∧ (Lit.int .i64 n7).wf = true ∧ (Lit.int .i64 n8).wf = true ∧ (Lit.int .i64 n9).wf = true ∧ (Lit.int .i64 n10).wf = true ∧ (Lit.int .i64 n11).wf = true ∧ (Lit.int .i64 n12).wf = true := by
  simp only [shStewService, isL_cons, isL_nil, is_int, is_bool, is_str] at ht
  obtain ⟨_, _, rfl, ⟨n0, rfl, b0⟩, _, _, rfl, ⟨n1, rfl, b1⟩, _, _, rfl, ⟨n2, rfl⟩, _, _, rfl, ⟨n3, rfl, b3⟩, _, _, rfl, ⟨n4, rfl, b4⟩, _, _, rfl, ⟨n5, rfl, b5⟩, _, _, rfl, ⟨n6, rfl, b6⟩, _, _, rfl, ⟨n7, rfl, b7⟩, _, _, rfl, ⟨n8, rfl, b8⟩, _, _, rfl, ⟨n9, rfl, b9⟩, _, _, rfl, ⟨n10, rfl, b10⟩, _, _, rfl, ⟨n11, rfl, b11⟩, _, _, rfl, ⟨n12, rfl, b12⟩, rfl⟩ := ht
  exact ⟨_, _, _, _, _, _, _, _, _, _, _, _, _, rfl, b0, b1, b3, b4, b5, b6, b7, b8, b9, b10, b11, b12⟩
theorem sizeStewService {n0} {n1} {n2} {n3} {n4} {n5} {n6} {n7} {n8} {n9} {n10} {n11} {n12} : T.sizeL [(.str n0), (.int .i64 n1), (.bool n2), (.int .i64 n3), (.int .i64 n4), (.int .i64 n5), (.int .i64 n6), (.int .i64 n7), (.int .i64 n8), (.int .i64 n9), (.int .i64 n10), (.int .i64 n11), (.int .i64 n12)] = n0.length := by
  simp only [sizeL_cons, sizeL_nil, size_int, size_bool, size_str]
  try omega
def c_laws_szStewService : C := (.seq (.ops [⟨(some 2), none, (.box (.t 0))⟩, ⟨(some 4), none, (.mv (.c (.t (.int .i64 0))))⟩]) (.seq (.ops [⟨(some 5), none, (.mv (.t 1))⟩, ⟨(some 6), none, (.fieldAddr 0 (.t 2))⟩, ⟨(some 7), none, (.load none (.t 6))⟩, ⟨(some 8), none, (.len true (.t 7))⟩, ⟨(some 9), none, (.bin .sub (.t 5) (.t 8))⟩, ⟨(some 1), none, (.mv (.t 9))⟩]) (.seq (.seq (.ops [⟨(some 10), none, (.mv (.t 1))⟩, ⟨(some 11), none, (.bin .lss (.t 10) (.c (.t (.int .i64 0))))⟩]) (.cond (.t 11) (.seq (.ops [⟨(some 4), none, (.mv (.c (.t (.int .i64 (-1)))))⟩]) .ret) .skip)) (.seq (.ops [⟨(some 12), none, (.mv (.t 1))⟩, ⟨(some 4), none, (.mv (.t 12))⟩]) .ret))))
theorem k_laws_szStewService : comp Tryd.prog 13 (Tryd.f5.body.getD .skip) = some c_laws_szStewService := by kernel_rfl

theorem szStewService : SzLOk Tryd.prog 5 shStewService := by
  rintro ts left σ ht h0 h1
  obtain ⟨n0, n1, n2, n3, n4, n5, n6, n7, n8, n9, n10, n11, n12, rfl, b0, b1, b3, b4, b5, b6, b7, b8, b9, b10, b11, b12⟩ := isStewService ht
  refine acalls_of Tryd.func5 (by decide +kernel) (code := Tryd.f5.body.getD .skip) (n := 13) (c := c_laws_szStewService) (rs := [(.tmp 4)]) rfl rfl k_laws_szStewService (by kernel_rfl) (by simp) (fun hσ => ?_)
  try simp only [maxLen] at *
  have fin : ∀ {n : Int} {τ : Store}, n ≤ left → (0 ≤ n → ((n0.length : Nat) : Int) + n ≤ left) → retV σ.length (SzR (T.sizeL [(.str n0), (.int .i64 n1), (.bool n2), (.int .i64 n3), (.int .i64 n4), (.int .i64 n5), (.int .i64 n6), (.int .i64 n7), (.int .i64 n8), (.int .i64 n9), (.int .i64 n10), (.int .i64 n11), (.int .i64 n12)]) left σ) (σ ++ τ) (some [.t (.int .i64 n)]) := fun h h' => ret_same rfl hσ rfl ⟨⟨_, rfl, h, fun h0 => by have := h' h0; rw [sizeStewService]; exact this⟩, rfl⟩
  have w0 : IntKind.i64.wrap (left - n0.length) = left - n0.length := IntWalk.i64_in _ (by omega)
  simp -implicitDefEqProofs only [c_laws_szStewService, w0, S0, S1, S2, S3, S4, S5, S6, S7, S8, S9, S10, S11, S12, S13, S14, S15, S16, S17, opv, opvs, eget, env0, setD, lenStr, lenSl, isNilP, isNilS, putAt, if_true, if_false, reduceCtorEq, Nat.reduceLeDiff, Nat.reduceEqDiff, Nat.reduceSub, Nat.reduceMul, Nat.reduceAdd]
  refine cond_split (fun h => ?_) (fun h => ?_)
  · simp -implicitDefEqProofs only [S0, S1, S2, S3, S4, S5, S6, S7, S8, S9, S10, S11, S12, S13, S14, S15, S16, S17, opv, opvs, eget, env0, setD, lenStr, lenSl, isNilP, isNilS, putAt, if_true, if_false, reduceCtorEq, Nat.reduceLeDiff, Nat.reduceEqDiff, Nat.reduceSub, Nat.reduceMul, Nat.reduceAdd]
    simp only [decide_eq_true_eq] at h
    exact fin (by omega) (by omega)
  simp only [decide_eq_false_iff_not, Int.not_lt] at h
  simp -implicitDefEqProofs only [S0, S1, S2, S3, S4, S5, S6, S7, S8, S9, S10, S11, S12, S13, S14, S15, S16, S17, opv, opvs, eget, env0, setD, lenStr, lenSl, isNilP, isNilS, putAt, if_true, if_false, reduceCtorEq, Nat.reduceLeDiff, Nat.reduceEqDiff, Nat.reduceSub, Nat.reduceMul, Nat.reduceAdd]
  exact fin (by omega) (fun _ => by omega)
def c_laws_eqStewService : C := (.seq (.ops [⟨(some 2), none, (.box (.t 0))⟩, ⟨(some 3), none, (.box (.t 1))⟩, ⟨(some 4), none, (.mv (.c (.t (.bool false))))⟩]) (.seq (.seq (.ops [⟨(some 5), none, (.fieldAddr 0 (.t 2))⟩, ⟨(some 6), none, (.load none (.t 5))⟩, ⟨(some 7), none, (.fieldAddr 0 (.t 3))⟩, ⟨(some 8), none, (.load none (.t 7))⟩, ⟨(some 9), none, (.bin .neq (.t 6) (.t 8))⟩]) (.cond (.t 9) (.seq (.ops [⟨(some 4), none, (.mv (.c (.t (.bool false))))⟩]) .ret) .skip)) (.seq (.seq (.ops [⟨(some 10), none, (.fieldAddr 1 (.t 2))⟩, ⟨(some 11), none, (.load none (.t 10))⟩, ⟨(some 12), none, (.fieldAddr 1 (.t 3))⟩, ⟨(some 13), none, (.load none (.t 12))⟩, ⟨(some 14), none, (.bin .neq (.t 11) (.t 13))⟩]) (.cond (.t 14) (.seq (.ops [⟨(some 4), none, (.mv (.c (.t (.bool false))))⟩]) .ret) .skip)) (.seq (.seq (.ops [⟨(some 15), none, (.fieldAddr 2 (.t 2))⟩, ⟨(some 16), none, (.load none (.t 15))⟩, ⟨(some 17), none, (.fieldAddr 2 (.t 3))⟩, ⟨(some 18), none, (.load none (.t 17))⟩, ⟨(some 19), none, (.eqB true (.t 16) (.t 18))⟩]) (.cond (.t 19) (.seq (.ops [⟨(some 4), none, (.mv (.c (.t (.bool false))))⟩]) .ret) .skip)) (.seq (.seq (.ops [⟨(some 20), none, (.fieldAddr 3 (.t 2))⟩, ⟨(some 21), none, (.load none (.t 20))⟩, ⟨(some 22), none, (.fieldAddr 3 (.t 3))⟩, ⟨(some 23), none, (.load none (.t 22))⟩, ⟨(some 24), none, (.bin .neq (.t 21) (.t 23))⟩]) (.cond (.t 24) (.seq (.ops [⟨(some 4), none, (.mv (.c (.t (.bool false))))⟩]) .ret) .skip)) (.seq (.seq (.ops [⟨(some 25), none, (.fieldAddr 4 (.t 2))⟩, ⟨(some 26), none, (.load none (.t 25))⟩, ⟨(some 27), none, (.fieldAddr 4 (.t 3))⟩, ⟨(some 28), none, (.load none (.t 27))⟩, ⟨(some 29), none, (.bin .neq (.t 26) (.t 28))⟩]) (.cond (.t 29) (.seq (.ops [⟨(some 4), none, (.mv (.c (.t (.bool false))))⟩]) .ret) .skip)) (.seq (.seq (.ops [⟨(some 30), none, (.fieldAddr 5 (.t 2))⟩, ⟨(some 31), none, (.load none (.t 30))⟩, ⟨(some 32), none, (.fieldAddr 5 (.t 3))⟩, ⟨(some 33), none, (.load none (.t 32))⟩, ⟨(some 34), none, (.bin .neq (.t 31) (.t 33))⟩]) (.cond (.t 34) (.seq (.ops [⟨(some 4), none, (.mv (.c (.t (.bool false))))⟩]) .ret) .skip)) (.seq (.seq (.ops [⟨(some 35), none, (.fieldAddr 6 (.t 2))⟩, ⟨(some 36), none, (.load none (.t 35))⟩, ⟨(some 37), none, (.fieldAddr 6 (.t 3))⟩, ⟨(some 38), none, (.load none (.t 37))⟩, ⟨(some 39), none, (.bin .neq (.t 36) (.t 38))⟩]) (.cond (.t 39) (.seq (.ops [⟨(some 4), none, (.mv (.c (.t (.bool false))))⟩]) .ret) .skip)) (.seq (.seq (.ops [⟨(some 40), none, (.fieldAddr 7 (.t 2))⟩, ⟨(some 41), none, (.load none (.t 40))⟩, ⟨(some 42), none, (.fieldAddr 7 (.t 3))⟩, ⟨(some 43), none, (.load none (.t 42))⟩, ⟨(some 44), none, (.bin .neq (.t 41) (.t 43))⟩]) (.cond (.t 44) (.seq (.ops [⟨(some 4), none, (.mv (.c (.t (.bool false))))⟩]) .ret) .skip)) (.seq (.seq (.ops [⟨(some 45), none, (.fieldAddr 8 (.t 2))⟩, ⟨(some 46), none, (.load none (.t 45))⟩, ⟨(some 47), none, (.fieldAddr 8 (.t 3))⟩, ⟨(some 48), none, (.load none (.t 47))⟩, ⟨(some 49), none, (.bin .neq (.t 46) (.t 48))⟩]) (.cond (.t 49) (.seq (.ops [⟨(some 4), none, (.mv (.c (.t (.bool false))))⟩]) .ret) .skip)) (.seq (.seq (.ops [⟨(some 50), none, (.fieldAddr 9 (.t 2))⟩, ⟨(some 51), none, (.load none (.t 50))⟩, ⟨(some 52), none, (.fieldAddr 9 (.t 3))⟩, ⟨(some 53), none, (.load none (.t 52))⟩, ⟨(some 54), none, (.bin .neq (.t 51) (.t 53))⟩]) (.cond (.t 54) (.seq (.ops [⟨(some 4), none, (.mv (.c (.t (.bool false))))⟩]) .ret) .skip)) (.seq (.seq (.ops [⟨(some 55), none, (.fieldAddr 10 (.t 2))⟩, ⟨(some 56), none, (.load none (.t 55))⟩, ⟨(some 57), none, (.fieldAddr 10 (.t 3))⟩, ⟨(some 58), none, (.load none (.t 57))⟩, ⟨(some 59), none, (.bin .neq (.t 56) (.t 58))⟩]) (.cond (.t 59) (.seq (.ops [⟨(some 4), none, (.mv (.c (.t (.bool false))))⟩]) .ret) .skip)) (.seq (.seq (.ops [⟨(some 60), none, (.fieldAddr 11 (.t 2))⟩, ⟨(some 61), none, (.load none (.t 60))⟩, ⟨(some 62), none, (.fieldAddr 11 (.t 3))⟩, ⟨(some 63), none, (.load none (.t 62))⟩, ⟨(some 64), none, (.bin .neq (.t 61) (.t 63))⟩]) (.cond (.t 64) (.seq (.ops [⟨(some 4), none, (.mv (.c (.t (.bool false))))⟩]) .ret) .skip)) (.seq (.seq (.ops [⟨(some 65), none, (.fieldAddr 12 (.t 2))⟩, ⟨(some 66), none, (.load none (.t 65))⟩, ⟨(some 67), none, (.fieldAddr 12 (.t 3))⟩, ⟨(some 68), none, (.load none (.t 67))⟩, ⟨(some 69), none, (.bin .neq (.t 66) (.t 68))⟩]) (.cond (.t 69) (.seq (.ops [⟨(some 4), none, (.mv (.c (.t (.bool false))))⟩]) .ret) .skip)) (.seq (.ops [⟨(some 4), none, (.mv (.c (.t (.bool true))))⟩]) .ret)))))))))))))))
theorem k_laws_eqStewService : comp Tryd.prog 70 (Tryd.f10.body.getD .skip) = some c_laws_eqStewService := by kernel_rfl

def c_laws_toStewService : C := (.seq (.ops [⟨(some 1), none, (.box (.t 0))⟩, ⟨(some 2), none, (.new [(.t (.str [])), (.t (.int .i64 0)), (.t (.bool false)), (.t (.int .i64 0)), (.t (.int .i64 0)), (.t (.int .i64 0)), (.t (.int .i64 0)), (.t (.int .i64 0)), (.t (.int .i64 0)), (.t (.int .i64 0)), (.t (.int .i64 0)), (.t (.int .i64 0)), (.t (.int .i64 0))])⟩]) (.seq (.ops [⟨(some 3), none, (.new [(.t (.str [])), (.t (.int .i64 0)), (.t (.bool false)), (.t (.int .i64 0)), (.t (.int .i64 0)), (.t (.int .i64 0)), (.t (.int .i64 0)), (.t (.int .i64 0)), (.t (.int .i64 0)), (.t (.int .i64 0)), (.t (.int .i64 0)), (.t (.int .i64 0)), (.t (.int .i64 0))])⟩]) (.seq (.ops [⟨(some 4), none, (.fieldAddr 0 (.t 1))⟩, ⟨(some 5), none, (.load none (.t 4))⟩, ⟨(some 6), none, (.fieldAddr 0 (.t 3))⟩, ⟨none, none, (.store 1 (.t 6) (.t 5))⟩]) (.seq (.ops [⟨(some 7), none, (.fieldAddr 1 (.t 1))⟩, ⟨(some 8), none, (.load none (.t 7))⟩, ⟨(some 9), none, (.fieldAddr 1 (.t 3))⟩, ⟨none, none, (.store 1 (.t 9) (.t 8))⟩]) (.seq (.ops [⟨(some 10), none, (.fieldAddr 2 (.t 1))⟩, ⟨(some 11), none, (.load none (.t 10))⟩, ⟨(some 12), none, (.fieldAddr 2 (.t 3))⟩, ⟨none, none, (.store 1 (.t 12) (.t 11))⟩]) (.seq (.ops [⟨(some 13), none, (.fieldAddr 3 (.t 1))⟩, ⟨(some 14), none, (.load none (.t 13))⟩, ⟨(some 15), none, (.fieldAddr 3 (.t 3))⟩, ⟨none, none, (.store 1 (.t 15) (.t 14))⟩]) (.seq (.ops [⟨(some 16), none, (.fieldAddr 4 (.t 1))⟩, ⟨(some 17), none, (.load none (.t 16))⟩, ⟨(some 18), none, (.fieldAddr 4 (.t 3))⟩, ⟨none, none, (.store 1 (.t 18) (.t 17))⟩]) (.seq (.ops [⟨(some 19), none, (.fieldAddr 5 (.t 1))⟩, ⟨(some 20), none, (.load none (.t 19))⟩, ⟨(some 21), none, (.fieldAddr 5 (.t 3))⟩, ⟨none, none, (.store 1 (.t 21) (.t 20))⟩]) (.seq (.ops [⟨(some 22), none, (.fieldAddr 6 (.t 1))⟩, ⟨(some 23), none, (.load none (.t 22))⟩, ⟨(some 24), none, (.fieldAddr 6 (.t 3))⟩, ⟨none, none, (.store 1 (.t 24) (.t 23))⟩]) (.seq (.ops [⟨(some 25), none, (.fieldAddr 7 (.t 1))⟩, ⟨(some 26), none, (.load none (.t 25))⟩, ⟨(some 27), none, (.fieldAddr 7 (.t 3))⟩, ⟨none, none, (.store 1 (.t 27) (.t 26))⟩]) (.seq (.ops [⟨(some 28), none, (.fieldAddr 8 (.t 1))⟩, ⟨(some 29), none, (.load none (.t 28))⟩, ⟨(some 30), none, (.fieldAddr 8 (.t 3))⟩, ⟨none, none, (.store 1 (.t 30) (.t 29))⟩]) (.seq (.ops [⟨(some 31), none, (.fieldAddr 9 (.t 1))⟩, ⟨(some 32), none, (.load none (.t 31))⟩, ⟨(some 33), none, (.fieldAddr 9 (.t 3))⟩, ⟨none, none, (.store 1 (.t 33) (.t 32))⟩]) (.seq (.ops [⟨(some 34), none, (.fieldAddr 10 (.t 1))⟩, ⟨(some 35), none, (.load none (.t 34))⟩, ⟨(some 36), none, (.fieldAddr 10 (.t 3))⟩, ⟨none, none, (.store 1 (.t 36) (.t 35))⟩]) (.seq (.ops [⟨(some 37), none, (.fieldAddr 11 (.t 1))⟩, ⟨(some 38), none, (.load none (.t 37))⟩, ⟨(some 39), none, (.fieldAddr 11 (.t 3))⟩, ⟨none, none, (.store 1 (.t 39) (.t 38))⟩]) (.seq (.ops [⟨(some 40), none, (.fieldAddr 12 (.t 1))⟩, ⟨(some 41), none, (.load none (.t 40))⟩, ⟨(some 42), none, (.fieldAddr 12 (.t 3))⟩, ⟨none, none, (.store 1 (.t 42) (.t 41))⟩]) (.seq (.ops [⟨(some 43), none, (.load (some 13) (.t 3))⟩, ⟨none, none, (.store 13 (.t 2) (.t 43))⟩]) .ret))))))))))))))))
theorem k_laws_toStewService : comp Tryd.prog 44 (Tryd.f8.body.getD .skip) = some c_laws_toStewService := by kernel_rfl

theorem toStewService : ToLOk Tryd.prog 8 shStewService := by
  rintro ts σ ht h1
  obtain ⟨n0, n1, n2, n3, n4, n5, n6, n7, n8, n9, n10, n11, n12, rfl, b0, b1, b3, b4, b5, b6, b7, b8, b9, b10, b11, b12⟩ := isStewService ht
  rw [sizeStewService] at h1
  refine acalls_of Tryd.func8 (by decide +kernel) (code := Tryd.f8.body.getD .skip) (n := 44) (c := c_laws_toStewService) (rs := [(.cell 2 (some 13))]) rfl rfl k_laws_toStewService (by kernel_rfl) (by simp) (fun hσ => ?_)
  simp -implicitDefEqProofs only [c_laws_toStewService, S0, S1, S2, S3, S4, S5, S6, S7, S8, S9, S10, S11, S12, S13, S14, S15, S16, S17, opv, opvs, eget, env0, setD, lenStr, lenSl, isNilP, isNilS, putAt, if_true, if_false, reduceCtorEq, Nat.reduceLeDiff, Nat.reduceEqDiff, Nat.reduceSub, Nat.reduceMul, Nat.reduceAdd]
  exact fin_keep (by simp) ⟨_, _, [], rfl, rfl, (OwnL.str (OwnL.int (OwnL.bool (OwnL.int (OwnL.int (OwnL.int (OwnL.int (OwnL.int (OwnL.int (OwnL.int (OwnL.int (OwnL.int (OwnL.int OwnL.nil0))))))))))))), Wi.nil⟩
end Go.Proofs.YtelpmllnallilaaDoor.W

end


section
open Go Go.Ab
namespace Go.Proofs.YtelpmllnallilaaDoor.W
structure GateObject where
  Kind : List UInt8
  Name : List UInt8
  Team : List UInt8
  Values : List (List UInt8)
  Ending : Bool
  Holds : List (List UInt8)
  Version : Int
def GateObject.ts (x : GateObject) : List T := [.str x.Kind, .str x.Name, .str x.Team, .lst 1 (x.Values.map tStr), .bool x.Ending, .lst 1 (x.Holds.map tStr), .int .i64 x.Version]
abbrev GateObject.vs (x : GateObject) : List V := [.t (.str x.Kind), .t (.str x.Name), .t (.str x.Team), .t (.lst 1 (x.Values.map tStr)), .t (.bool x.Ending), .t (.lst 1 (x.Holds.map tStr)), .t (.int .i64 x.Version)]
theorem GateObject.vs_ts (x : GateObject) : x.ts.map V.t = x.vs := rfl
structure GateObject.Ok (x : GateObject) : Prop where
  Kind : x.Kind.length ≤ 1048576
  Name : x.Name.length ≤ 1048576
  Team : x.Team.length ≤ 1048576
  Values : StrsOk x.Values
  Holds : StrsOk x.Holds
  Version : i64r x.Version
theorem of_GateObject {ts : List T} (h : T.isL shGateObject ts) : ∃ x : GateObject, ts = x.ts ∧ (T.sizeL ts ≤ 1048576 → x.Ok) := by
  obtain ⟨n0, n1, n2, n3, n4, n5, n6, rfl, b0, b1, b2, b3, b5, b6⟩ := isGateObject h
  obtain ⟨l3, rfl, c3⟩ := of_strs b3
  obtain ⟨l5, rfl, c5⟩ := of_strs b5
  refine ⟨⟨n0, n1, n2, l3, n4, l5, n6⟩, rfl, fun hz => ?_⟩
  rw [sizeGateObject] at hz
  exact ⟨by simp only; omega, by simp only; omega, by simp only; omega, c3 (by omega), c5 (by omega), wf_i64 b6⟩
structure StewService where
  Name : List UInt8
  Version : Int
  Gone : Bool
  Image : Int
  Want : Int
  Down : Int
  Over : Int
  Next : Int
  Per : Int
  Least : Int
  Most : Int
  Load : Int
  Cool : Int
def StewService.ts (x : StewService) : List T := [.str x.Name, .int .i64 x.Version, .bool x.Gone, .int .i64 x.Image, .int .i64 x.Want, .int .i64 x.Down, .int .i64 x.Over, .int .i64 x.Next, .int .i64 x.Per, .int .i64 x.Least, .int .i64 x.Most, .int .i64 x.Load, .int .i64 x.Cool]
abbrev StewService.vs (x : StewService) : List V := [.t (.str x.Name), .t (.int .i64 x.Version), .t (.bool x.Gone), .t (.int .i64 x.Image), .t (.int .i64 x.Want), .t (.int .i64 x.Down), .t (.int .i64 x.Over), .t (.int .i64 x.Next), .t (.int .i64 x.Per), .t (.int .i64 x.Least), .t (.int .i64 x.Most), .t (.int .i64 x.Load), .t (.int .i64 x.Cool)]
theorem StewService.vs_ts (x : StewService) : x.ts.map V.t = x.vs := rfl
structure StewService.Ok (x : StewService) : Prop where
  Name : x.Name.length ≤ 1048576
  Version : i64r x.Version
  Image : i64r x.Image
  Want : i64r x.Want
  Down : i64r x.Down
  Over : i64r x.Over
  Next : i64r x.Next
  Per : i64r x.Per
  Least : i64r x.Least
  Most : i64r x.Most
  Load : i64r x.Load
  Cool : i64r x.Cool
theorem of_StewService {ts : List T} (h : T.isL shStewService ts) : ∃ x : StewService, ts = x.ts ∧ (T.sizeL ts ≤ 1048576 → x.Ok) := by
  obtain ⟨n0, n1, n2, n3, n4, n5, n6, n7, n8, n9, n10, n11, n12, rfl, b0, b1, b3, b4, b5, b6, b7, b8, b9, b10, b11, b12⟩ := isStewService h
  refine ⟨⟨n0, n1, n2, n3, n4, n5, n6, n7, n8, n9, n10, n11, n12⟩, rfl, fun hz => ?_⟩
  rw [sizeStewService] at hz
  exact ⟨by simp only; omega, wf_i64 b1, wf_i64 b3, wf_i64 b4, wf_i64 b5, wf_i64 b6, wf_i64 b7, wf_i64 b8, wf_i64 b9, wf_i64 b10, wf_i64 b11, wf_i64 b12⟩
end Go.Proofs.YtelpmllnallilaaDoor.W

end
