/- What the laws' own helpers do with these structs: sizes, copies, comparing (printed by laws.py). Conditions: none. -/
/- The program's structs as Lean structures, their trees (printed by types.py). Conditions: none. -/
import Derived.Test.YtcjchimenfadkaaAb3
import Derived.IntWalk
import Derived.Test.YtcjchimenfadkaaProg
import Derived.KernelRfl
set_option linter.unusedSimpArgs false
set_option linter.unusedVariables false
set_option linter.defProp false

section
open Go Go.Ab
set_option maxHeartbeats 4000000
set_option maxRecDepth 20000
namespace Go.Proofs.Ytcjchimenfadkaa.W
theorem i_szStringS : Is Try.prog 54 28 [(.tmp 4)] (tSzStr) := ⟨_, _, Try.func54, by decide +kernel, rfl, rfl, by kernel_rfl, rfl⟩
theorem szStringS : SzOk Try.prog 54 (.sl 1 [.str]) := szStr_ok i_szStringS
theorem i_eqStringS : Is Try.prog 61 26 [(.tmp 4)] (tEq1) := ⟨_, _, Try.func61, by decide +kernel, rfl, rfl, by kernel_rfl, rfl⟩
theorem eqStringS : EqOk Try.prog 61 (.sl 1 [.str]) := eqStr_ok i_eqStringS
theorem i_toStringS : Is Try.prog 55 22 [(.tmp 2)] (tTo1 16 [.t (.str [])]) := ⟨_, _, Try.func55, by decide +kernel, rfl, rfl, by kernel_rfl, rfl⟩
theorem toStringS : ToOk Try.prog 55 (.sl 1 [.str]) := to1_ok 16 [.t (.str [])] sc_str rfl (by decide) i_toStringS
def shGateField : List Sh := [.str, .int .i64, .int .i64, .int .i64, .sl 1 [.str], .str, .int .i64, .bool, .bool, .str, .str]
theorem isGateField {ts : List T} (ht : T.isL shGateField ts) : ∃ n0 n1 n2 n3 n4 n5 n6 n7 n8 n9 n10, ts = [(.str n0), (.int .i64 n1), (.int .i64 n2), (.int .i64 n3), n4, (.str n5), (.int .i64 n6), (.bool n7), (.bool n8), (.str n9), (.str n10)] ∧ n0.length ≤ maxLen ∧ (Lit.int .i64 n1).wf = true ∧ (Lit.int .i64 n2).wf = true ∧ (Lit.int .i64 n3).wf = true ∧ T.is (.sl 1 [.str]) n4 ∧ n5.length ≤ maxLen ∧ (Lit.int .i64 n6).wf = true ∧ n9.length ≤ maxLen ∧ n10.length ≤ maxLen := by
  simp only [shGateField, isL_cons, isL_nil, is_int, is_bool, is_str] at ht
  obtain ⟨_, _, rfl, ⟨n0, rfl, b0⟩, _, _, rfl, ⟨n1, rfl, b1⟩, _, _, rfl, ⟨n2, rfl, b2⟩, _, _, rfl, ⟨n3, rfl, b3⟩, n4, _, rfl, b4, _, _, rfl, ⟨n5, rfl, b5⟩, _, _, rfl, ⟨n6, rfl, b6⟩, _, _, rfl, ⟨n7, rfl⟩, _, _, rfl, ⟨n8, rfl⟩, _, _, rfl, ⟨n9, rfl, b9⟩, _, _, rfl, ⟨n10, rfl, b10⟩, rfl⟩ := ht
  exact ⟨_, _, _, _, _, _, _, _, _, _, _, rfl, b0, b1, b2, b3, b4, b5, b6, b9, b10⟩
theorem sizeGateField {n0} {n1} {n2} {n3} {n4} {n5} {n6} {n7} {n8} {n9} {n10} : T.sizeL [(.str n0), (.int .i64 n1), (.int .i64 n2), (.int .i64 n3), n4, (.str n5), (.int .i64 n6), (.bool n7), (.bool n8), (.str n9), (.str n10)] = n0.length + n4.size + n5.length + n9.length + n10.length := by
  simp only [sizeL_cons, sizeL_nil, size_int, size_bool, size_str]
  try omega
def c_laws_szGateField : C := (.seq (.ops [⟨(some 2), none, (.box (.t 0))⟩, ⟨(some 4), none, (.mv (.c (.t (.int .i64 0))))⟩]) (.seq (.ops [⟨(some 5), none, (.mv (.t 1))⟩, ⟨(some 6), none, (.fieldAddr 0 (.t 2))⟩, ⟨(some 7), none, (.load none (.t 6))⟩, ⟨(some 8), none, (.len true (.t 7))⟩, ⟨(some 9), none, (.bin .sub (.t 5) (.t 8))⟩, ⟨(some 1), none, (.mv (.t 9))⟩]) (.seq (.seq (.ops [⟨(some 10), none, (.mv (.t 1))⟩, ⟨(some 11), none, (.bin .lss (.t 10) (.c (.t (.int .i64 0))))⟩]) (.cond (.t 11) (.seq (.ops [⟨(some 4), none, (.mv (.c (.t (.int .i64 (-1)))))⟩]) .ret) .skip)) (.seq (.ops [⟨(some 12), none, (.fieldAddr 4 (.t 2))⟩, ⟨(some 13), none, (.load none (.t 12))⟩, ⟨(some 14), none, (.mv (.t 1))⟩, ⟨(some 15), none, (.call (.c (.fn (.func 54) [])) [(.t 13), (.t 14)])⟩, ⟨(some 1), none, (.mv (.t 15))⟩]) (.seq (.seq (.ops [⟨(some 16), none, (.mv (.t 1))⟩, ⟨(some 17), none, (.bin .lss (.t 16) (.c (.t (.int .i64 0))))⟩]) (.cond (.t 17) (.seq (.ops [⟨(some 4), none, (.mv (.c (.t (.int .i64 (-1)))))⟩]) .ret) .skip)) (.seq (.ops [⟨(some 18), none, (.mv (.t 1))⟩, ⟨(some 19), none, (.fieldAddr 5 (.t 2))⟩, ⟨(some 20), none, (.load none (.t 19))⟩, ⟨(some 21), none, (.len true (.t 20))⟩, ⟨(some 22), none, (.bin .sub (.t 18) (.t 21))⟩, ⟨(some 1), none, (.mv (.t 22))⟩]) (.seq (.seq (.ops [⟨(some 23), none, (.mv (.t 1))⟩, ⟨(some 24), none, (.bin .lss (.t 23) (.c (.t (.int .i64 0))))⟩]) (.cond (.t 24) (.seq (.ops [⟨(some 4), none, (.mv (.c (.t (.int .i64 (-1)))))⟩]) .ret) .skip)) (.seq (.ops [⟨(some 25), none, (.mv (.t 1))⟩, ⟨(some 26), none, (.fieldAddr 9 (.t 2))⟩, ⟨(some 27), none, (.load none (.t 26))⟩, ⟨(some 28), none, (.len true (.t 27))⟩, ⟨(some 29), none, (.bin .sub (.t 25) (.t 28))⟩, ⟨(some 1), none, (.mv (.t 29))⟩]) (.seq (.seq (.ops [⟨(some 30), none, (.mv (.t 1))⟩, ⟨(some 31), none, (.bin .lss (.t 30) (.c (.t (.int .i64 0))))⟩]) (.cond (.t 31) (.seq (.ops [⟨(some 4), none, (.mv (.c (.t (.int .i64 (-1)))))⟩]) .ret) .skip)) (.seq (.ops [⟨(some 32), none, (.mv (.t 1))⟩, ⟨(some 33), none, (.fieldAddr 10 (.t 2))⟩, ⟨(some 34), none, (.load none (.t 33))⟩, ⟨(some 35), none, (.len true (.t 34))⟩, ⟨(some 36), none, (.bin .sub (.t 32) (.t 35))⟩, ⟨(some 1), none, (.mv (.t 36))⟩]) (.seq (.seq (.ops [⟨(some 37), none, (.mv (.t 1))⟩, ⟨(some 38), none, (.bin .lss (.t 37) (.c (.t (.int .i64 0))))⟩]) (.cond (.t 38) (.seq (.ops [⟨(some 4), none, (.mv (.c (.t (.int .i64 (-1)))))⟩]) .ret) .skip)) (.seq (.ops [⟨(some 39), none, (.mv (.t 1))⟩, ⟨(some 4), none, (.mv (.t 39))⟩]) .ret))))))))))))
theorem k_laws_szGateField : comp Try.prog 40 (Try.f43.body.getD .skip) = some c_laws_szGateField := by kernel_rfl

theorem szGateField : SzLOk Try.prog 43 shGateField := by
  rintro ts left σ ht h0 h1
  obtain ⟨n0, n1, n2, n3, n4, n5, n6, n7, n8, n9, n10, rfl, b0, b1, b2, b3, b4, b5, b6, b9, b10⟩ := isGateField ht
  refine acalls_of Try.func43 (by decide +kernel) (code := Try.f43.body.getD .skip) (n := 40) (c := c_laws_szGateField) (rs := [(.tmp 4)]) rfl rfl k_laws_szGateField (by kernel_rfl) (by simp) (fun hσ => ?_)
  try simp only [maxLen] at *
  have fin : ∀ {n : Int} {τ : Store}, n ≤ left → (0 ≤ n → ((n0.length + n4.size + n5.length + n9.length + n10.length : Nat) : Int) + n ≤ left) → retV σ.length (SzR (T.sizeL [(.str n0), (.int .i64 n1), (.int .i64 n2), (.int .i64 n3), n4, (.str n5), (.int .i64 n6), (.bool n7), (.bool n8), (.str n9), (.str n10)]) left σ) (σ ++ τ) (some [.t (.int .i64 n)]) := fun h h' => ret_same rfl hσ rfl ⟨⟨_, rfl, h, fun h0 => by have := h' h0; rw [sizeGateField]; exact this⟩, rfl⟩
  have w0 : IntKind.i64.wrap (left - n0.length) = left - n0.length := IntWalk.i64_in _ (by omega)
  simp -implicitDefEqProofs only [c_laws_szGateField, w0, S0, S1, S2, S3, S4, S5, S6, S7, S8, S9, S10, S11, S12, S13, S14, S15, S16, S17, opv, opvs, eget, env0, setD, lenStr, lenSl, isNilP, isNilS, putAt, if_true, if_false, reduceCtorEq, Nat.reduceLeDiff, Nat.reduceEqDiff, Nat.reduceSub, Nat.reduceMul, Nat.reduceAdd]
  refine cond_split (fun h => ?_) (fun h => ?_)
  · simp -implicitDefEqProofs only [S0, S1, S2, S3, S4, S5, S6, S7, S8, S9, S10, S11, S12, S13, S14, S15, S16, S17, opv, opvs, eget, env0, setD, lenStr, lenSl, isNilP, isNilS, putAt, if_true, if_false, reduceCtorEq, Nat.reduceLeDiff, Nat.reduceEqDiff, Nat.reduceSub, Nat.reduceMul, Nat.reduceAdd]
    simp only [decide_eq_true_eq] at h
    exact fin (by omega) (by omega)
  simp only [decide_eq_false_iff_not, Int.not_lt] at h
  simp -implicitDefEqProofs only [S0, S1, S2, S3, S4, S5, S6, S7, S8, S9, S10, S11, S12, S13, S14, S15, S16, S17, opv, opvs, eget, env0, setD, lenStr, lenSl, isNilP, isNilS, putAt, if_true, if_false, reduceCtorEq, Nat.reduceLeDiff, Nat.reduceEqDiff, Nat.reduceSub, Nat.reduceMul, Nat.reduceAdd]
  refine call_by (by rw [List.append_nil]; exact szStringS n4 (left - n0.length) _ b4 (by omega) (by omega)) ?_
  rintro r σ' ⟨⟨m4, rfl, hm4, hs4⟩, rfl⟩
  try simp only [sizeGateField] at hs4
  simp -implicitDefEqProofs only [S0, S1, S2, S3, S4, S5, S6, S7, S8, S9, S10, S11, S12, S13, S14, S15, S16, S17, opv, opvs, eget, env0, setD, lenStr, lenSl, isNilP, isNilS, putAt, if_true, if_false, reduceCtorEq, Nat.reduceLeDiff, Nat.reduceEqDiff, Nat.reduceSub, Nat.reduceMul, Nat.reduceAdd]
  refine cond_split (fun h => ?_) (fun h => ?_)
  · simp -implicitDefEqProofs only [S0, S1, S2, S3, S4, S5, S6, S7, S8, S9, S10, S11, S12, S13, S14, S15, S16, S17, opv, opvs, eget, env0, setD, lenStr, lenSl, isNilP, isNilS, putAt, if_true, if_false, reduceCtorEq, Nat.reduceLeDiff, Nat.reduceEqDiff, Nat.reduceSub, Nat.reduceMul, Nat.reduceAdd]
    simp only [decide_eq_true_eq] at h
    exact fin (by omega) (by omega)
  simp only [decide_eq_false_iff_not, Int.not_lt] at h
  replace hs4 := hs4 h
  have w5 : IntKind.i64.wrap (m4 - n5.length) = m4 - n5.length := IntWalk.i64_in _ (by omega)
  simp -implicitDefEqProofs only [w5, S0, S1, S2, S3, S4, S5, S6, S7, S8, S9, S10, S11, S12, S13, S14, S15, S16, S17, opv, opvs, eget, env0, setD, lenStr, lenSl, isNilP, isNilS, putAt, if_true, if_false, reduceCtorEq, Nat.reduceLeDiff, Nat.reduceEqDiff, Nat.reduceSub, Nat.reduceMul, Nat.reduceAdd]
  refine cond_split (fun h => ?_) (fun h => ?_)
  · simp -implicitDefEqProofs only [S0, S1, S2, S3, S4, S5, S6, S7, S8, S9, S10, S11, S12, S13, S14, S15, S16, S17, opv, opvs, eget, env0, setD, lenStr, lenSl, isNilP, isNilS, putAt, if_true, if_false, reduceCtorEq, Nat.reduceLeDiff, Nat.reduceEqDiff, Nat.reduceSub, Nat.reduceMul, Nat.reduceAdd]
    simp only [decide_eq_true_eq] at h
    exact fin (by omega) (by omega)
  simp only [decide_eq_false_iff_not, Int.not_lt] at h
  have w9 : IntKind.i64.wrap ((m4 - n5.length) - n9.length) = (m4 - n5.length) - n9.length := IntWalk.i64_in _ (by omega)
  simp -implicitDefEqProofs only [w9, S0, S1, S2, S3, S4, S5, S6, S7, S8, S9, S10, S11, S12, S13, S14, S15, S16, S17, opv, opvs, eget, env0, setD, lenStr, lenSl, isNilP, isNilS, putAt, if_true, if_false, reduceCtorEq, Nat.reduceLeDiff, Nat.reduceEqDiff, Nat.reduceSub, Nat.reduceMul, Nat.reduceAdd]
  refine cond_split (fun h => ?_) (fun h => ?_)
  · simp -implicitDefEqProofs only [S0, S1, S2, S3, S4, S5, S6, S7, S8, S9, S10, S11, S12, S13, S14, S15, S16, S17, opv, opvs, eget, env0, setD, lenStr, lenSl, isNilP, isNilS, putAt, if_true, if_false, reduceCtorEq, Nat.reduceLeDiff, Nat.reduceEqDiff, Nat.reduceSub, Nat.reduceMul, Nat.reduceAdd]
    simp only [decide_eq_true_eq] at h
    exact fin (by omega) (by omega)
  simp only [decide_eq_false_iff_not, Int.not_lt] at h
  have w10 : IntKind.i64.wrap (((m4 - n5.length) - n9.length) - n10.length) = ((m4 - n5.length) - n9.length) - n10.length := IntWalk.i64_in _ (by omega)
  simp -implicitDefEqProofs only [w10, S0, S1, S2, S3, S4, S5, S6, S7, S8, S9, S10, S11, S12, S13, S14, S15, S16, S17, opv, opvs, eget, env0, setD, lenStr, lenSl, isNilP, isNilS, putAt, if_true, if_false, reduceCtorEq, Nat.reduceLeDiff, Nat.reduceEqDiff, Nat.reduceSub, Nat.reduceMul, Nat.reduceAdd]
  refine cond_split (fun h => ?_) (fun h => ?_)
  · simp -implicitDefEqProofs only [S0, S1, S2, S3, S4, S5, S6, S7, S8, S9, S10, S11, S12, S13, S14, S15, S16, S17, opv, opvs, eget, env0, setD, lenStr, lenSl, isNilP, isNilS, putAt, if_true, if_false, reduceCtorEq, Nat.reduceLeDiff, Nat.reduceEqDiff, Nat.reduceSub, Nat.reduceMul, Nat.reduceAdd]
    simp only [decide_eq_true_eq] at h
    exact fin (by omega) (by omega)
  simp only [decide_eq_false_iff_not, Int.not_lt] at h
  simp -implicitDefEqProofs only [S0, S1, S2, S3, S4, S5, S6, S7, S8, S9, S10, S11, S12, S13, S14, S15, S16, S17, opv, opvs, eget, env0, setD, lenStr, lenSl, isNilP, isNilS, putAt, if_true, if_false, reduceCtorEq, Nat.reduceLeDiff, Nat.reduceEqDiff, Nat.reduceSub, Nat.reduceMul, Nat.reduceAdd]
  exact fin (by omega) (fun _ => by omega)
def c_laws_eqGateField : C := (.seq (.ops [⟨(some 2), none, (.box (.t 0))⟩, ⟨(some 3), none, (.box (.t 1))⟩, ⟨(some 4), none, (.mv (.c (.t (.bool false))))⟩]) (.seq (.seq (.ops [⟨(some 5), none, (.fieldAddr 0 (.t 2))⟩, ⟨(some 6), none, (.load none (.t 5))⟩, ⟨(some 7), none, (.fieldAddr 0 (.t 3))⟩, ⟨(some 8), none, (.load none (.t 7))⟩, ⟨(some 9), none, (.bin .neq (.t 6) (.t 8))⟩]) (.cond (.t 9) (.seq (.ops [⟨(some 4), none, (.mv (.c (.t (.bool false))))⟩]) .ret) .skip)) (.seq (.seq (.ops [⟨(some 10), none, (.fieldAddr 1 (.t 2))⟩, ⟨(some 11), none, (.load none (.t 10))⟩, ⟨(some 12), none, (.fieldAddr 1 (.t 3))⟩, ⟨(some 13), none, (.load none (.t 12))⟩, ⟨(some 14), none, (.bin .neq (.t 11) (.t 13))⟩]) (.cond (.t 14) (.seq (.ops [⟨(some 4), none, (.mv (.c (.t (.bool false))))⟩]) .ret) .skip)) (.seq (.seq (.ops [⟨(some 15), none, (.fieldAddr 2 (.t 2))⟩, ⟨(some 16), none, (.load none (.t 15))⟩, ⟨(some 17), none, (.fieldAddr 2 (.t 3))⟩, ⟨(some 18), none, (.load none (.t 17))⟩, ⟨(some 19), none, (.bin .neq (.t 16) (.t 18))⟩]) (.cond (.t 19) (.seq (.ops [⟨(some 4), none, (.mv (.c (.t (.bool false))))⟩]) .ret) .skip)) (.seq (.seq (.ops [⟨(some 20), none, (.fieldAddr 3 (.t 2))⟩, ⟨(some 21), none, (.load none (.t 20))⟩, ⟨(some 22), none, (.fieldAddr 3 (.t 3))⟩, ⟨(some 23), none, (.load none (.t 22))⟩, ⟨(some 24), none, (.bin .neq (.t 21) (.t 23))⟩]) (.cond (.t 24) (.seq (.ops [⟨(some 4), none, (.mv (.c (.t (.bool false))))⟩]) .ret) .skip)) (.seq (.seq (.ops [⟨(some 25), none, (.fieldAddr 4 (.t 2))⟩, ⟨(some 26), none, (.load none (.t 25))⟩, ⟨(some 27), none, (.fieldAddr 4 (.t 3))⟩, ⟨(some 28), none, (.load none (.t 27))⟩, ⟨(some 29), none, (.call (.c (.fn (.func 61) [])) [(.t 26), (.t 28)])⟩, ⟨(some 30), none, (.un .not (.t 29))⟩]) (.cond (.t 30) (.seq (.ops [⟨(some 4), none, (.mv (.c (.t (.bool false))))⟩]) .ret) .skip)) (.seq (.seq (.ops [⟨(some 31), none, (.fieldAddr 5 (.t 2))⟩, ⟨(some 32), none, (.load none (.t 31))⟩, ⟨(some 33), none, (.fieldAddr 5 (.t 3))⟩, ⟨(some 34), none, (.load none (.t 33))⟩, ⟨(some 35), none, (.bin .neq (.t 32) (.t 34))⟩]) (.cond (.t 35) (.seq (.ops [⟨(some 4), none, (.mv (.c (.t (.bool false))))⟩]) .ret) .skip)) (.seq (.seq (.ops [⟨(some 36), none, (.fieldAddr 6 (.t 2))⟩, ⟨(some 37), none, (.load none (.t 36))⟩, ⟨(some 38), none, (.fieldAddr 6 (.t 3))⟩, ⟨(some 39), none, (.load none (.t 38))⟩, ⟨(some 40), none, (.bin .neq (.t 37) (.t 39))⟩]) (.cond (.t 40) (.seq (.ops [⟨(some 4), none, (.mv (.c (.t (.bool false))))⟩]) .ret) .skip)) (.seq (.seq (.ops [⟨(some 41), none, (.fieldAddr 7 (.t 2))⟩, ⟨(some 42), none, (.load none (.t 41))⟩, ⟨(some 43), none, (.fieldAddr 7 (.t 3))⟩, ⟨(some 44), none, (.load none (.t 43))⟩, ⟨(some 45), none, (.eqB true (.t 42) (.t 44))⟩]) (.cond (.t 45) (.seq (.ops [⟨(some 4), none, (.mv (.c (.t (.bool false))))⟩]) .ret) .skip)) (.seq (.seq (.ops [⟨(some 46), none, (.fieldAddr 8 (.t 2))⟩, ⟨(some 47), none, (.load none (.t 46))⟩, ⟨(some 48), none, (.fieldAddr 8 (.t 3))⟩, ⟨(some 49), none, (.load none (.t 48))⟩, ⟨(some 50), none, (.eqB true (.t 47) (.t 49))⟩]) (.cond (.t 50) (.seq (.ops [⟨(some 4), none, (.mv (.c (.t (.bool false))))⟩]) .ret) .skip)) (.seq (.seq (.ops [⟨(some 51), none, (.fieldAddr 9 (.t 2))⟩, ⟨(some 52), none, (.load none (.t 51))⟩, ⟨(some 53), none, (.fieldAddr 9 (.t 3))⟩, ⟨(some 54), none, (.load none (.t 53))⟩, ⟨(some 55), none, (.bin .neq (.t 52) (.t 54))⟩]) (.cond (.t 55) (.seq (.ops [⟨(some 4), none, (.mv (.c (.t (.bool false))))⟩]) .ret) .skip)) (.seq (.seq (.ops [⟨(some 56), none, (.fieldAddr 10 (.t 2))⟩, ⟨(some 57), none, (.load none (.t 56))⟩, ⟨(some 58), none, (.fieldAddr 10 (.t 3))⟩, ⟨(some 59), none, (.load none (.t 58))⟩, ⟨(some 60), none, (.bin .neq (.t 57) (.t 59))⟩]) (.cond (.t 60) (.seq (.ops [⟨(some 4), none, (.mv (.c (.t (.bool false))))⟩]) .ret) .skip)) (.seq (.ops [⟨(some 4), none, (.mv (.c (.t (.bool true))))⟩]) .ret)))))))))))))
theorem k_laws_eqGateField : comp Try.prog 61 (Try.f53.body.getD .skip) = some c_laws_eqGateField := by kernel_rfl

theorem eqGateField : EqLOk Try.prog 53 shGateField := by
  rintro ts σ ht h1
  obtain ⟨n0, n1, n2, n3, n4, n5, n6, n7, n8, n9, n10, rfl, b0, b1, b2, b3, b4, b5, b6, b9, b10⟩ := isGateField ht
  rw [sizeGateField] at h1
  refine acalls_of Try.func53 (by decide +kernel) (code := Try.f53.body.getD .skip) (n := 61) (c := c_laws_eqGateField) (rs := [(.tmp 4)]) rfl rfl k_laws_eqGateField (by kernel_rfl) (by simp) (fun hσ => ?_)
  simp -implicitDefEqProofs only [c_laws_eqGateField, ne_self, beq_self_eq_true, S0, S1, S2, S3, S4, S5, S6, S7, S8, S9, S10, S11, S12, S13, S14, S15, S16, S17, opv, opvs, eget, env0, setD, lenStr, lenSl, isNilP, isNilS, putAt, if_true, if_false, reduceCtorEq, Nat.reduceLeDiff, Nat.reduceEqDiff, Nat.reduceSub, Nat.reduceMul, Nat.reduceAdd]
  refine call_pure (eqStringS n4 _ b4 (by omega)) ?_
  simp -implicitDefEqProofs only [ne_self, beq_self_eq_true, S0, S1, S2, S3, S4, S5, S6, S7, S8, S9, S10, S11, S12, S13, S14, S15, S16, S17, opv, opvs, eget, env0, setD, lenStr, lenSl, isNilP, isNilS, putAt, if_true, if_false, reduceCtorEq, Nat.reduceLeDiff, Nat.reduceEqDiff, Nat.reduceSub, Nat.reduceMul, Nat.reduceAdd]
  exact ret_same rfl hσ rfl ⟨rfl, rfl⟩
def c_laws_toGateField : C := (.seq (.ops [⟨(some 1), none, (.box (.t 0))⟩, ⟨(some 2), none, (.new [(.t (.str [])), (.t (.int .i64 0)), (.t (.int .i64 0)), (.t (.int .i64 0)), .nils, (.t (.str [])), (.t (.int .i64 0)), (.t (.bool false)), (.t (.bool false)), (.t (.str [])), (.t (.str []))])⟩]) (.seq (.ops [⟨(some 3), none, (.new [(.t (.str [])), (.t (.int .i64 0)), (.t (.int .i64 0)), (.t (.int .i64 0)), .nils, (.t (.str [])), (.t (.int .i64 0)), (.t (.bool false)), (.t (.bool false)), (.t (.str [])), (.t (.str []))])⟩]) (.seq (.ops [⟨(some 4), none, (.fieldAddr 0 (.t 1))⟩, ⟨(some 5), none, (.load none (.t 4))⟩, ⟨(some 6), none, (.fieldAddr 0 (.t 3))⟩, ⟨none, none, (.store 1 (.t 6) (.t 5))⟩]) (.seq (.ops [⟨(some 7), none, (.fieldAddr 1 (.t 1))⟩, ⟨(some 8), none, (.load none (.t 7))⟩, ⟨(some 9), none, (.fieldAddr 1 (.t 3))⟩, ⟨none, none, (.store 1 (.t 9) (.t 8))⟩]) (.seq (.ops [⟨(some 10), none, (.fieldAddr 2 (.t 1))⟩, ⟨(some 11), none, (.load none (.t 10))⟩, ⟨(some 12), none, (.fieldAddr 2 (.t 3))⟩, ⟨none, none, (.store 1 (.t 12) (.t 11))⟩]) (.seq (.ops [⟨(some 13), none, (.fieldAddr 3 (.t 1))⟩, ⟨(some 14), none, (.load none (.t 13))⟩, ⟨(some 15), none, (.fieldAddr 3 (.t 3))⟩, ⟨none, none, (.store 1 (.t 15) (.t 14))⟩]) (.seq (.ops [⟨(some 16), none, (.fieldAddr 4 (.t 1))⟩, ⟨(some 17), none, (.load none (.t 16))⟩, ⟨(some 18), none, (.call (.c (.fn (.func 55) [])) [(.t 17)])⟩, ⟨(some 19), none, (.fieldAddr 4 (.t 3))⟩, ⟨none, none, (.store 1 (.t 19) (.t 18))⟩]) (.seq (.ops [⟨(some 20), none, (.fieldAddr 5 (.t 1))⟩, ⟨(some 21), none, (.load none (.t 20))⟩, ⟨(some 22), none, (.fieldAddr 5 (.t 3))⟩, ⟨none, none, (.store 1 (.t 22) (.t 21))⟩]) (.seq (.ops [⟨(some 23), none, (.fieldAddr 6 (.t 1))⟩, ⟨(some 24), none, (.load none (.t 23))⟩, ⟨(some 25), none, (.fieldAddr 6 (.t 3))⟩, ⟨none, none, (.store 1 (.t 25) (.t 24))⟩]) (.seq (.ops [⟨(some 26), none, (.fieldAddr 7 (.t 1))⟩, ⟨(some 27), none, (.load none (.t 26))⟩, ⟨(some 28), none, (.fieldAddr 7 (.t 3))⟩, ⟨none, none, (.store 1 (.t 28) (.t 27))⟩]) (.seq (.ops [⟨(some 29), none, (.fieldAddr 8 (.t 1))⟩, ⟨(some 30), none, (.load none (.t 29))⟩, ⟨(some 31), none, (.fieldAddr 8 (.t 3))⟩, ⟨none, none, (.store 1 (.t 31) (.t 30))⟩]) (.seq (.ops [⟨(some 32), none, (.fieldAddr 9 (.t 1))⟩, ⟨(some 33), none, (.load none (.t 32))⟩, ⟨(some 34), none, (.fieldAddr 9 (.t 3))⟩, ⟨none, none, (.store 1 (.t 34) (.t 33))⟩]) (.seq (.ops [⟨(some 35), none, (.fieldAddr 10 (.t 1))⟩, ⟨(some 36), none, (.load none (.t 35))⟩, ⟨(some 37), none, (.fieldAddr 10 (.t 3))⟩, ⟨none, none, (.store 1 (.t 37) (.t 36))⟩]) (.seq (.ops [⟨(some 38), none, (.load (some 11) (.t 3))⟩, ⟨none, none, (.store 11 (.t 2) (.t 38))⟩]) .ret))))))))))))))
theorem k_laws_toGateField : comp Try.prog 39 (Try.f49.body.getD .skip) = some c_laws_toGateField := by kernel_rfl

theorem toGateField : ToLOk Try.prog 49 shGateField := by
  rintro ts σ ht h1
  obtain ⟨n0, n1, n2, n3, n4, n5, n6, n7, n8, n9, n10, rfl, b0, b1, b2, b3, b4, b5, b6, b9, b10⟩ := isGateField ht
  rw [sizeGateField] at h1
  refine acalls_of Try.func49 (by decide +kernel) (code := Try.f49.body.getD .skip) (n := 39) (c := c_laws_toGateField) (rs := [(.cell 2 (some 11))]) rfl rfl k_laws_toGateField (by kernel_rfl) (by simp) (fun hσ => ?_)
  simp -implicitDefEqProofs only [c_laws_toGateField, S0, S1, S2, S3, S4, S5, S6, S7, S8, S9, S10, S11, S12, S13, S14, S15, S16, S17, opv, opvs, eget, env0, setD, lenStr, lenSl, isNilP, isNilS, putAt, if_true, if_false, reduceCtorEq, Nat.reduceLeDiff, Nat.reduceEqDiff, Nat.reduceSub, Nat.reduceMul, Nat.reduceAdd]
  refine call_by (by rw [List.append_nil]; exact toStringS n4 _ b4 (by omega)) ?_
  rintro u4 σ' ⟨τ4, j4, rfl, o4, w4⟩
  have e4 := o4.one
  simp -implicitDefEqProofs only [one_cells e4, e4, S0, S1, S2, S3, S4, S5, S6, S7, S8, S9, S10, S11, S12, S13, S14, S15, S16, S17, opv, opvs, eget, env0, setD, lenStr, lenSl, isNilP, isNilS, putAt, if_true, if_false, reduceCtorEq, Nat.reduceLeDiff, Nat.reduceEqDiff, Nat.reduceSub, Nat.reduceMul, Nat.reduceAdd]
  refine fin_keep (by simp) ⟨_, _, (j4 ++ []), rfl, rfl, (OwnL.str (OwnL.int (OwnL.int (OwnL.int (OwnL.lst (own_pre (A := [_, _, _]) (A' := [_, _, _]) (B := τ4) (B' := τ4) o4 w4 (List.append_assoc ..) rfl rfl (by simp) (by simp)) (OwnL.str (OwnL.int (OwnL.bool (OwnL.bool (OwnL.str (OwnL.str OwnL.nil0))))))))))), ?_⟩
  simp only [List.length_append, List.length_cons, List.length_nil] at w4 ⊢
  refine Wi.mono (a := σ.length) ?_ (Nat.le_refl _) (Nat.le_refl _)
  exact wi_last w4 (by omega) (by omega)
theorem i_szGateFieldS : Is Try.prog 25 27 [(.tmp 4)] (tSzS 11 43) := ⟨_, _, Try.func25, by decide +kernel, rfl, rfl, by kernel_rfl, rfl⟩
theorem szGateFieldS : SzOk Try.prog 25 (.sl 11 shGateField) := szS_ok rfl i_szGateFieldS szGateField
theorem i_eqGateFieldS : Is Try.prog 42 27 [(.tmp 4)] (tEqS 11 53) := ⟨_, _, Try.func42, by decide +kernel, rfl, rfl, by kernel_rfl, rfl⟩
theorem eqGateFieldS : EqOk Try.prog 42 (.sl 11 shGateField) := eqS_ok rfl i_eqGateFieldS eqGateField
theorem i_toGateFieldS : Is Try.prog 34 23 [(.tmp 2)] (tToS 11 128 49 [.t (.str []), .t (.int .i64 0), .t (.int .i64 0), .t (.int .i64 0), .nils, .t (.str []), .t (.int .i64 0), .t (.bool false), .t (.bool false), .t (.str []), .t (.str [])]) := ⟨_, _, Try.func34, by decide +kernel, rfl, rfl, by kernel_rfl, rfl⟩
theorem toGateFieldS : ToOk Try.prog 34 (.sl 11 shGateField) := toS_ok 128 [.t (.str []), .t (.int .i64 0), .t (.int .i64 0), .t (.int .i64 0), .nils, .t (.str []), .t (.int .i64 0), .t (.bool false), .t (.bool false), .t (.str []), .t (.str [])] rfl (by decide) rfl (by decide) i_toGateFieldS toGateField
def shGateShape : List Sh := [.str, .sl 11 shGateField]
theorem isGateShape {ts : List T} (ht : T.isL shGateShape ts) : ∃ n0 n1, ts = [(.str n0), n1] ∧ n0.length ≤ maxLen ∧ T.is (.sl 11 shGateField) n1 := by
  simp only [shGateShape, isL_cons, isL_nil, is_int, is_bool, is_str] at ht
  obtain ⟨_, _, rfl, ⟨n0, rfl, b0⟩, n1, _, rfl, b1, rfl⟩ := ht
  exact ⟨_, _, rfl, b0, b1⟩
theorem sizeGateShape {n0} {n1} : T.sizeL [(.str n0), n1] = n0.length + n1.size := by
  simp only [sizeL_cons, sizeL_nil, size_int, size_bool, size_str]
  try omega
def c_laws_szGateShape : C := (.seq (.ops [⟨(some 2), none, (.box (.t 0))⟩, ⟨(some 4), none, (.mv (.c (.t (.int .i64 0))))⟩]) (.seq (.ops [⟨(some 5), none, (.mv (.t 1))⟩, ⟨(some 6), none, (.fieldAddr 0 (.t 2))⟩, ⟨(some 7), none, (.load none (.t 6))⟩, ⟨(some 8), none, (.len true (.t 7))⟩, ⟨(some 9), none, (.bin .sub (.t 5) (.t 8))⟩, ⟨(some 1), none, (.mv (.t 9))⟩]) (.seq (.seq (.ops [⟨(some 10), none, (.mv (.t 1))⟩, ⟨(some 11), none, (.bin .lss (.t 10) (.c (.t (.int .i64 0))))⟩]) (.cond (.t 11) (.seq (.ops [⟨(some 4), none, (.mv (.c (.t (.int .i64 (-1)))))⟩]) .ret) .skip)) (.seq (.ops [⟨(some 12), none, (.fieldAddr 1 (.t 2))⟩, ⟨(some 13), none, (.load none (.t 12))⟩, ⟨(some 14), none, (.mv (.t 1))⟩, ⟨(some 15), none, (.call (.c (.fn (.func 25) [])) [(.t 13), (.t 14)])⟩, ⟨(some 1), none, (.mv (.t 15))⟩]) (.seq (.seq (.ops [⟨(some 16), none, (.mv (.t 1))⟩, ⟨(some 17), none, (.bin .lss (.t 16) (.c (.t (.int .i64 0))))⟩]) (.cond (.t 17) (.seq (.ops [⟨(some 4), none, (.mv (.c (.t (.int .i64 (-1)))))⟩]) .ret) .skip)) (.seq (.ops [⟨(some 18), none, (.mv (.t 1))⟩, ⟨(some 4), none, (.mv (.t 18))⟩]) .ret))))))
theorem k_laws_szGateShape : comp Try.prog 19 (Try.f12.body.getD .skip) = some c_laws_szGateShape := by kernel_rfl

theorem szGateShape : SzLOk Try.prog 12 shGateShape := by
  rintro ts left σ ht h0 h1
  obtain ⟨n0, n1, rfl, b0, b1⟩ := isGateShape ht
  refine acalls_of Try.func12 (by decide +kernel) (code := Try.f12.body.getD .skip) (n := 19) (c := c_laws_szGateShape) (rs := [(.tmp 4)]) rfl rfl k_laws_szGateShape (by kernel_rfl) (by simp) (fun hσ => ?_)
  try simp only [maxLen] at *
  have fin : ∀ {n : Int} {τ : Store}, n ≤ left → (0 ≤ n → ((n0.length + n1.size : Nat) : Int) + n ≤ left) → retV σ.length (SzR (T.sizeL [(.str n0), n1]) left σ) (σ ++ τ) (some [.t (.int .i64 n)]) := fun h h' => ret_same rfl hσ rfl ⟨⟨_, rfl, h, fun h0 => by have := h' h0; rw [sizeGateShape]; exact this⟩, rfl⟩
  have w0 : IntKind.i64.wrap (left - n0.length) = left - n0.length := IntWalk.i64_in _ (by omega)
  simp -implicitDefEqProofs only [c_laws_szGateShape, w0, S0, S1, S2, S3, S4, S5, S6, S7, S8, S9, S10, S11, S12, S13, S14, S15, S16, S17, opv, opvs, eget, env0, setD, lenStr, lenSl, isNilP, isNilS, putAt, if_true, if_false, reduceCtorEq, Nat.reduceLeDiff, Nat.reduceEqDiff, Nat.reduceSub, Nat.reduceMul, Nat.reduceAdd]
  refine cond_split (fun h => ?_) (fun h => ?_)
  · simp -implicitDefEqProofs only [S0, S1, S2, S3, S4, S5, S6, S7, S8, S9, S10, S11, S12, S13, S14, S15, S16, S17, opv, opvs, eget, env0, setD, lenStr, lenSl, isNilP, isNilS, putAt, if_true, if_false, reduceCtorEq, Nat.reduceLeDiff, Nat.reduceEqDiff, Nat.reduceSub, Nat.reduceMul, Nat.reduceAdd]
    simp only [decide_eq_true_eq] at h
    exact fin (by omega) (by omega)
  simp only [decide_eq_false_iff_not, Int.not_lt] at h
  simp -implicitDefEqProofs only [S0, S1, S2, S3, S4, S5, S6, S7, S8, S9, S10, S11, S12, S13, S14, S15, S16, S17, opv, opvs, eget, env0, setD, lenStr, lenSl, isNilP, isNilS, putAt, if_true, if_false, reduceCtorEq, Nat.reduceLeDiff, Nat.reduceEqDiff, Nat.reduceSub, Nat.reduceMul, Nat.reduceAdd]
  refine call_by (by rw [List.append_nil]; exact szGateFieldS n1 (left - n0.length) _ b1 (by omega) (by omega)) ?_
  rintro r σ' ⟨⟨m1, rfl, hm1, hs1⟩, rfl⟩
  try simp only [sizeGateShape] at hs1
  simp -implicitDefEqProofs only [S0, S1, S2, S3, S4, S5, S6, S7, S8, S9, S10, S11, S12, S13, S14, S15, S16, S17, opv, opvs, eget, env0, setD, lenStr, lenSl, isNilP, isNilS, putAt, if_true, if_false, reduceCtorEq, Nat.reduceLeDiff, Nat.reduceEqDiff, Nat.reduceSub, Nat.reduceMul, Nat.reduceAdd]
  refine cond_split (fun h => ?_) (fun h => ?_)
  · simp -implicitDefEqProofs only [S0, S1, S2, S3, S4, S5, S6, S7, S8, S9, S10, S11, S12, S13, S14, S15, S16, S17, opv, opvs, eget, env0, setD, lenStr, lenSl, isNilP, isNilS, putAt, if_true, if_false, reduceCtorEq, Nat.reduceLeDiff, Nat.reduceEqDiff, Nat.reduceSub, Nat.reduceMul, Nat.reduceAdd]
    simp only [decide_eq_true_eq] at h
    exact fin (by omega) (by omega)
  simp only [decide_eq_false_iff_not, Int.not_lt] at h
  replace hs1 := hs1 h
  simp -implicitDefEqProofs only [S0, S1, S2, S3, S4, S5, S6, S7, S8, S9, S10, S11, S12, S13, S14, S15, S16, S17, opv, opvs, eget, env0, setD, lenStr, lenSl, isNilP, isNilS, putAt, if_true, if_false, reduceCtorEq, Nat.reduceLeDiff, Nat.reduceEqDiff, Nat.reduceSub, Nat.reduceMul, Nat.reduceAdd]
  exact fin (by omega) (fun _ => by omega)
def c_laws_eqGateShape : C := (.seq (.ops [⟨(some 2), none, (.box (.t 0))⟩, ⟨(some 3), none, (.box (.t 1))⟩, ⟨(some 4), none, (.mv (.c (.t (.bool false))))⟩]) (.seq (.seq (.ops [⟨(some 5), none, (.fieldAddr 0 (.t 2))⟩, ⟨(some 6), none, (.load none (.t 5))⟩, ⟨(some 7), none, (.fieldAddr 0 (.t 3))⟩, ⟨(some 8), none, (.load none (.t 7))⟩, ⟨(some 9), none, (.bin .neq (.t 6) (.t 8))⟩]) (.cond (.t 9) (.seq (.ops [⟨(some 4), none, (.mv (.c (.t (.bool false))))⟩]) .ret) .skip)) (.seq (.seq (.ops [⟨(some 10), none, (.fieldAddr 1 (.t 2))⟩, ⟨(some 11), none, (.load none (.t 10))⟩, ⟨(some 12), none, (.fieldAddr 1 (.t 3))⟩, ⟨(some 13), none, (.load none (.t 12))⟩, ⟨(some 14), none, (.call (.c (.fn (.func 42) [])) [(.t 11), (.t 13)])⟩, ⟨(some 15), none, (.un .not (.t 14))⟩]) (.cond (.t 15) (.seq (.ops [⟨(some 4), none, (.mv (.c (.t (.bool false))))⟩]) .ret) .skip)) (.seq (.ops [⟨(some 4), none, (.mv (.c (.t (.bool true))))⟩]) .ret))))
theorem k_laws_eqGateShape : comp Try.prog 16 (Try.f23.body.getD .skip) = some c_laws_eqGateShape := by kernel_rfl

theorem eqGateShape : EqLOk Try.prog 23 shGateShape := by
  rintro ts σ ht h1
  obtain ⟨n0, n1, rfl, b0, b1⟩ := isGateShape ht
  rw [sizeGateShape] at h1
  refine acalls_of Try.func23 (by decide +kernel) (code := Try.f23.body.getD .skip) (n := 16) (c := c_laws_eqGateShape) (rs := [(.tmp 4)]) rfl rfl k_laws_eqGateShape (by kernel_rfl) (by simp) (fun hσ => ?_)
  simp -implicitDefEqProofs only [c_laws_eqGateShape, ne_self, beq_self_eq_true, S0, S1, S2, S3, S4, S5, S6, S7, S8, S9, S10, S11, S12, S13, S14, S15, S16, S17, opv, opvs, eget, env0, setD, lenStr, lenSl, isNilP, isNilS, putAt, if_true, if_false, reduceCtorEq, Nat.reduceLeDiff, Nat.reduceEqDiff, Nat.reduceSub, Nat.reduceMul, Nat.reduceAdd]
  refine call_pure (eqGateFieldS n1 _ b1 (by omega)) ?_
  simp -implicitDefEqProofs only [ne_self, beq_self_eq_true, S0, S1, S2, S3, S4, S5, S6, S7, S8, S9, S10, S11, S12, S13, S14, S15, S16, S17, opv, opvs, eget, env0, setD, lenStr, lenSl, isNilP, isNilS, putAt, if_true, if_false, reduceCtorEq, Nat.reduceLeDiff, Nat.reduceEqDiff, Nat.reduceSub, Nat.reduceMul, Nat.reduceAdd]
  exact ret_same rfl hσ rfl ⟨rfl, rfl⟩
def c_laws_toGateShape : C := (.seq (.ops [⟨(some 1), none, (.box (.t 0))⟩, ⟨(some 2), none, (.new [(.t (.str [])), .nils])⟩]) (.seq (.ops [⟨(some 3), none, (.new [(.t (.str [])), .nils])⟩]) (.seq (.ops [⟨(some 4), none, (.fieldAddr 0 (.t 1))⟩, ⟨(some 5), none, (.load none (.t 4))⟩, ⟨(some 6), none, (.fieldAddr 0 (.t 3))⟩, ⟨none, none, (.store 1 (.t 6) (.t 5))⟩]) (.seq (.ops [⟨(some 7), none, (.fieldAddr 1 (.t 1))⟩, ⟨(some 8), none, (.load none (.t 7))⟩, ⟨(some 9), none, (.call (.c (.fn (.func 34) [])) [(.t 8)])⟩, ⟨(some 10), none, (.fieldAddr 1 (.t 3))⟩, ⟨none, none, (.store 1 (.t 10) (.t 9))⟩]) (.seq (.ops [⟨(some 11), none, (.load (some 2) (.t 3))⟩, ⟨none, none, (.store 2 (.t 2) (.t 11))⟩]) .ret)))))
theorem k_laws_toGateShape : comp Try.prog 12 (Try.f17.body.getD .skip) = some c_laws_toGateShape := by kernel_rfl

theorem toGateShape : ToLOk Try.prog 17 shGateShape := by
  rintro ts σ ht h1
  obtain ⟨n0, n1, rfl, b0, b1⟩ := isGateShape ht
  rw [sizeGateShape] at h1
  refine acalls_of Try.func17 (by decide +kernel) (code := Try.f17.body.getD .skip) (n := 12) (c := c_laws_toGateShape) (rs := [(.cell 2 (some 2))]) rfl rfl k_laws_toGateShape (by kernel_rfl) (by simp) (fun hσ => ?_)
  simp -implicitDefEqProofs only [c_laws_toGateShape, S0, S1, S2, S3, S4, S5, S6, S7, S8, S9, S10, S11, S12, S13, S14, S15, S16, S17, opv, opvs, eget, env0, setD, lenStr, lenSl, isNilP, isNilS, putAt, if_true, if_false, reduceCtorEq, Nat.reduceLeDiff, Nat.reduceEqDiff, Nat.reduceSub, Nat.reduceMul, Nat.reduceAdd]
  refine call_by (by rw [List.append_nil]; exact toGateFieldS n1 _ b1 (by omega)) ?_
  rintro u1 σ' ⟨τ1, j1, rfl, o1, w1⟩
  have e1 := o1.one
  simp -implicitDefEqProofs only [one_cells e1, e1, S0, S1, S2, S3, S4, S5, S6, S7, S8, S9, S10, S11, S12, S13, S14, S15, S16, S17, opv, opvs, eget, env0, setD, lenStr, lenSl, isNilP, isNilS, putAt, if_true, if_false, reduceCtorEq, Nat.reduceLeDiff, Nat.reduceEqDiff, Nat.reduceSub, Nat.reduceMul, Nat.reduceAdd]
  refine fin_keep (by simp) ⟨_, _, (j1 ++ []), rfl, rfl, (OwnL.str (OwnL.lst (own_pre (A := [_, _, _]) (A' := [_, _, _]) (B := τ1) (B' := τ1) o1 w1 (List.append_assoc ..) rfl rfl (by simp) (by simp)) OwnL.nil0)), ?_⟩
  simp only [List.length_append, List.length_cons, List.length_nil] at w1 ⊢
  refine Wi.mono (a := σ.length) ?_ (Nat.le_refl _) (Nat.le_refl _)
  exact wi_last w1 (by omega) (by omega)
theorem i_szGateShapeS : Is Try.prog 4 27 [(.tmp 4)] (tSzS 2 12) := ⟨_, _, Try.func4, by decide +kernel, rfl, rfl, by kernel_rfl, rfl⟩
theorem szGateShapeS : SzOk Try.prog 4 (.sl 2 shGateShape) := szS_ok rfl i_szGateShapeS szGateShape
theorem i_eqGateShapeS : Is Try.prog 10 27 [(.tmp 4)] (tEqS 2 23) := ⟨_, _, Try.func10, by decide +kernel, rfl, rfl, by kernel_rfl, rfl⟩
theorem eqGateShapeS : EqOk Try.prog 10 (.sl 2 shGateShape) := eqS_ok rfl i_eqGateShapeS eqGateShape
theorem i_toGateShapeS : Is Try.prog 7 23 [(.tmp 2)] (tToS 2 40 17 [.t (.str []), .nils]) := ⟨_, _, Try.func7, by decide +kernel, rfl, rfl, by kernel_rfl, rfl⟩
theorem toGateShapeS : ToOk Try.prog 7 (.sl 2 shGateShape) := toS_ok 40 [.t (.str []), .nils] rfl (by decide) rfl (by decide) i_toGateShapeS toGateShape
def shGateMend : List Sh := [.str, .str, .str, .str, .str, .str]
theorem isGateMend {ts : List T} (ht : T.isL shGateMend ts) : ∃ n0 n1 n2 n3 n4 n5, ts = [(.str n0), (.str n1), (.str n2), (.str n3), (.str n4), (.str n5)] ∧ n0.length ≤ maxLen ∧ n1.length ≤ maxLen ∧ n2.length ≤ maxLen ∧ n3.length ≤ maxLen ∧ n4.length ≤ maxLen ∧ n5.length ≤ maxLen := by
  simp only [shGateMend, isL_cons, isL_nil, is_int, is_bool, is_str] at ht
  obtain ⟨_, _, rfl, ⟨n0, rfl, b0⟩, _, _, rfl, ⟨n1, rfl, b1⟩, _, _, rfl, ⟨n2, rfl, b2⟩, _, _, rfl, ⟨n3, rfl, b3⟩, _, _, rfl, ⟨n4, rfl, b4⟩, _, _, rfl, ⟨n5, rfl, b5⟩, rfl⟩ := ht
  exact ⟨_, _, _, _, _, _, rfl, b0, b1, b2, b3, b4, b5⟩
theorem sizeGateMend {n0} {n1} {n2} {n3} {n4} {n5} : T.sizeL [(.str n0), (.str n1), (.str n2), (.str n3), (.str n4), (.str n5)] = n0.length + n1.length + n2.length + n3.length + n4.length + n5.length := by
  simp only [sizeL_cons, sizeL_nil, size_int, size_bool, size_str]
  try omega
def c_laws_szGateMend : C := (.seq (.ops [⟨(some 2), none, (.box (.t 0))⟩, ⟨(some 4), none, (.mv (.c (.t (.int .i64 0))))⟩]) (.seq (.ops [⟨(some 5), none, (.mv (.t 1))⟩, ⟨(some 6), none, (.fieldAddr 0 (.t 2))⟩, ⟨(some 7), none, (.load none (.t 6))⟩, ⟨(some 8), none, (.len true (.t 7))⟩, ⟨(some 9), none, (.bin .sub (.t 5) (.t 8))⟩, ⟨(some 1), none, (.mv (.t 9))⟩]) (.seq (.seq (.ops [⟨(some 10), none, (.mv (.t 1))⟩, ⟨(some 11), none, (.bin .lss (.t 10) (.c (.t (.int .i64 0))))⟩]) (.cond (.t 11) (.seq (.ops [⟨(some 4), none, (.mv (.c (.t (.int .i64 (-1)))))⟩]) .ret) .skip)) (.seq (.ops [⟨(some 12), none, (.mv (.t 1))⟩, ⟨(some 13), none, (.fieldAddr 1 (.t 2))⟩, ⟨(some 14), none, (.load none (.t 13))⟩, ⟨(some 15), none, (.len true (.t 14))⟩, ⟨(some 16), none, (.bin .sub (.t 12) (.t 15))⟩, ⟨(some 1), none, (.mv (.t 16))⟩]) (.seq (.seq (.ops [⟨(some 17), none, (.mv (.t 1))⟩, ⟨(some 18), none, (.bin .lss (.t 17) (.c (.t (.int .i64 0))))⟩]) (.cond (.t 18) (.seq (.ops [⟨(some 4), none, (.mv (.c (.t (.int .i64 (-1)))))⟩]) .ret) .skip)) (.seq (.ops [⟨(some 19), none, (.mv (.t 1))⟩, ⟨(some 20), none, (.fieldAddr 2 (.t 2))⟩, ⟨(some 21), none, (.load none (.t 20))⟩, ⟨(some 22), none, (.len true (.t 21))⟩, ⟨(some 23), none, (.bin .sub (.t 19) (.t 22))⟩, ⟨(some 1), none, (.mv (.t 23))⟩]) (.seq (.seq (.ops [⟨(some 24), none, (.mv (.t 1))⟩, ⟨(some 25), none, (.bin .lss (.t 24) (.c (.t (.int .i64 0))))⟩]) (.cond (.t 25) (.seq (.ops [⟨(some 4), none, (.mv (.c (.t (.int .i64 (-1)))))⟩]) .ret) .skip)) (.seq (.ops [⟨(some 26), none, (.mv (.t 1))⟩, ⟨(some 27), none, (.fieldAddr 3 (.t 2))⟩, ⟨(some 28), none, (.load none (.t 27))⟩, ⟨(some 29), none, (.len true (.t 28))⟩, ⟨(some 30), none, (.bin .sub (.t 26) (.t 29))⟩, ⟨(some 1), none, (.mv (.t 30))⟩]) (.seq (.seq (.ops [⟨(some 31), none, (.mv (.t 1))⟩, ⟨(some 32), none, (.bin .lss (.t 31) (.c (.t (.int .i64 0))))⟩]) (.cond (.t 32) (.seq (.ops [⟨(some 4), none, (.mv (.c (.t (.int .i64 (-1)))))⟩]) .ret) .skip)) (.seq (.ops [⟨(some 33), none, (.mv (.t 1))⟩, ⟨(some 34), none, (.fieldAddr 4 (.t 2))⟩, ⟨(some 35), none, (.load none (.t 34))⟩, ⟨(some 36), none, (.len true (.t 35))⟩, ⟨(some 37), none, (.bin .sub (.t 33) (.t 36))⟩, ⟨(some 1), none, (.mv (.t 37))⟩]) (.seq (.seq (.ops [⟨(some 38), none, (.mv (.t 1))⟩, ⟨(some 39), none, (.bin .lss (.t 38) (.c (.t (.int .i64 0))))⟩]) (.cond (.t 39) (.seq (.ops [⟨(some 4), none, (.mv (.c (.t (.int .i64 (-1)))))⟩]) .ret) .skip)) (.seq (.ops [⟨(some 40), none, (.mv (.t 1))⟩, ⟨(some 41), none, (.fieldAddr 5 (.t 2))⟩, ⟨(some 42), none, (.load none (.t 41))⟩, ⟨(some 43), none, (.len true (.t 42))⟩, ⟨(some 44), none, (.bin .sub (.t 40) (.t 43))⟩, ⟨(some 1), none, (.mv (.t 44))⟩]) (.seq (.seq (.ops [⟨(some 45), none, (.mv (.t 1))⟩, ⟨(some 46), none, (.bin .lss (.t 45) (.c (.t (.int .i64 0))))⟩]) (.cond (.t 46) (.seq (.ops [⟨(some 4), none, (.mv (.c (.t (.int .i64 (-1)))))⟩]) .ret) .skip)) (.seq (.ops [⟨(some 47), none, (.mv (.t 1))⟩, ⟨(some 4), none, (.mv (.t 47))⟩]) .ret))))))))))))))
theorem k_laws_szGateMend : comp Try.prog 48 (Try.f13.body.getD .skip) = some c_laws_szGateMend := by kernel_rfl

theorem szGateMend : SzLOk Try.prog 13 shGateMend := by
  rintro ts left σ ht h0 h1
  obtain ⟨n0, n1, n2, n3, n4, n5, rfl, b0, b1, b2, b3, b4, b5⟩ := isGateMend ht
  refine acalls_of Try.func13 (by decide +kernel) (code := Try.f13.body.getD .skip) (n := 48) (c := c_laws_szGateMend) (rs := [(.tmp 4)]) rfl rfl k_laws_szGateMend (by kernel_rfl) (by simp) (fun hσ => ?_)
  try simp only [maxLen] at *
  have fin : ∀ {n : Int} {τ : Store}, n ≤ left → (0 ≤ n → ((n0.length + n1.length + n2.length + n3.length + n4.length + n5.length : Nat) : Int) + n ≤ left) → retV σ.length (SzR (T.sizeL [(.str n0), (.str n1), (.str n2), (.str n3), (.str n4), (.str n5)]) left σ) (σ ++ τ) (some [.t (.int .i64 n)]) := fun h h' => ret_same rfl hσ rfl ⟨⟨_, rfl, h, fun h0 => by have := h' h0; rw [sizeGateMend]; exact this⟩, rfl⟩
  have w0 : IntKind.i64.wrap (left - n0.length) = left - n0.length := IntWalk.i64_in _ (by omega)
  simp -implicitDefEqProofs only [c_laws_szGateMend, w0, S0, S1, S2, S3, S4, S5, S6, S7, S8, S9, S10, S11, S12, S13, S14, S15, S16, S17, opv, opvs, eget, env0, setD, lenStr, lenSl, isNilP, isNilS, putAt, if_true, if_false, reduceCtorEq, Nat.reduceLeDiff, Nat.reduceEqDiff, Nat.reduceSub, Nat.reduceMul, Nat.reduceAdd]
  refine cond_split (fun h => ?_) (fun h => ?_)
  · simp -implicitDefEqProofs only [S0, S1, S2, S3, S4, S5, S6, S7, S8, S9, S10, S11, S12, S13, S14, S15, S16, S17, opv, opvs, eget, env0, setD, lenStr, lenSl, isNilP, isNilS, putAt, if_true, if_false, reduceCtorEq, Nat.reduceLeDiff, Nat.reduceEqDiff, Nat.reduceSub, Nat.reduceMul, Nat.reduceAdd]
    simp only [decide_eq_true_eq] at h
    exact fin (by omega) (by omega)
  simp only [decide_eq_false_iff_not, Int.not_lt] at h
  have w1 : IntKind.i64.wrap ((left - n0.length) - n1.length) = (left - n0.length) - n1.length := IntWalk.i64_in _ (by omega)
  simp -implicitDefEqProofs only [w1, S0, S1, S2, S3, S4, S5, S6, S7, S8, S9, S10, S11, S12, S13, S14, S15, S16, S17, opv, opvs, eget, env0, setD, lenStr, lenSl, isNilP, isNilS, putAt, if_true, if_false, reduceCtorEq, Nat.reduceLeDiff, Nat.reduceEqDiff, Nat.reduceSub, Nat.reduceMul, Nat.reduceAdd]
  refine cond_split (fun h => ?_) (fun h => ?_)
  · simp -implicitDefEqProofs only [S0, S1, S2, S3, S4, S5, S6, S7, S8, S9, S10, S11, S12, S13, S14, S15, S16, S17, opv, opvs, eget, env0, setD, lenStr, lenSl, isNilP, isNilS, putAt, if_true, if_false, reduceCtorEq, Nat.reduceLeDiff, Nat.reduceEqDiff, Nat.reduceSub, Nat.reduceMul, Nat.reduceAdd]
    simp only [decide_eq_true_eq] at h
    exact fin (by omega) (by omega)
  simp only [decide_eq_false_iff_not, Int.not_lt] at h
  have w2 : IntKind.i64.wrap (((left - n0.length) - n1.length) - n2.length) = ((left - n0.length) - n1.length) - n2.length := IntWalk.i64_in _ (by omega)
  simp -implicitDefEqProofs only [w2, S0, S1, S2, S3, S4, S5, S6, S7, S8, S9, S10, S11, S12, S13, S14, S15, S16, S17, opv, opvs, eget, env0, setD, lenStr, lenSl, isNilP, isNilS, putAt, if_true, if_false, reduceCtorEq, Nat.reduceLeDiff, Nat.reduceEqDiff, Nat.reduceSub, Nat.reduceMul, Nat.reduceAdd]
  refine cond_split (fun h => ?_) (fun h => ?_)
  · simp -implicitDefEqProofs only [S0, S1, S2, S3, S4, S5, S6, S7, S8, S9, S10, S11, S12, S13, S14, S15, S16, S17, opv, opvs, eget, env0, setD, lenStr, lenSl, isNilP, isNilS, putAt, if_true, if_false, reduceCtorEq, Nat.reduceLeDiff, Nat.reduceEqDiff, Nat.reduceSub, Nat.reduceMul, Nat.reduceAdd]
    simp only [decide_eq_true_eq] at h
    exact fin (by omega) (by omega)
  simp only [decide_eq_false_iff_not, Int.not_lt] at h
  have w3 : IntKind.i64.wrap ((((left - n0.length) - n1.length) - n2.length) - n3.length) = (((left - n0.length) - n1.length) - n2.length) - n3.length := IntWalk.i64_in _ (by omega)
  simp -implicitDefEqProofs only [w3, S0, S1, S2, S3, S4, S5, S6, S7, S8, S9, S10, S11, S12, S13, S14, S15, S16, S17, opv, opvs, eget, env0, setD, lenStr, lenSl, isNilP, isNilS, putAt, if_true, if_false, reduceCtorEq, Nat.reduceLeDiff, Nat.reduceEqDiff, Nat.reduceSub, Nat.reduceMul, Nat.reduceAdd]
  refine cond_split (fun h => ?_) (fun h => ?_)
  · simp -implicitDefEqProofs only [S0, S1, S2, S3, S4, S5, S6, S7, S8, S9, S10, S11, S12, S13, S14, S15, S16, S17, opv, opvs, eget, env0, setD, lenStr, lenSl, isNilP, isNilS, putAt, if_true, if_false, reduceCtorEq, Nat.reduceLeDiff, Nat.reduceEqDiff, Nat.reduceSub, Nat.reduceMul, Nat.reduceAdd]
    simp only [decide_eq_true_eq] at h
    exact fin (by omega) (by omega)
  simp only [decide_eq_false_iff_not, Int.not_lt] at h
  have w4 : IntKind.i64.wrap (((((left - n0.length) - n1.length) - n2.length) - n3.length) - n4.length) = ((((left - n0.length) - n1.length) - n2.length) - n3.length) - n4.length := IntWalk.i64_in _ (by omega)
  simp -implicitDefEqProofs only [w4, S0, S1, S2, S3, S4, S5, S6, S7, S8, S9, S10, S11, S12, S13, S14, S15, S16, S17, opv, opvs, eget, env0, setD, lenStr, lenSl, isNilP, isNilS, putAt, if_true, if_false, reduceCtorEq, Nat.reduceLeDiff, Nat.reduceEqDiff, Nat.reduceSub, Nat.reduceMul, Nat.reduceAdd]
  refine cond_split (fun h => ?_) (fun h => ?_)
  · simp -implicitDefEqProofs only [S0, S1, S2, S3, S4, S5, S6, S7, S8, S9, S10, S11, S12, S13, S14, S15, S16, S17, opv, opvs, eget, env0, setD, lenStr, lenSl, isNilP, isNilS, putAt, if_true, if_false, reduceCtorEq, Nat.reduceLeDiff, Nat.reduceEqDiff, Nat.reduceSub, Nat.reduceMul, Nat.reduceAdd]
    simp only [decide_eq_true_eq] at h
    exact fin (by omega) (by omega)
  simp only [decide_eq_false_iff_not, Int.not_lt] at h
  have w5 : IntKind.i64.wrap ((((((left - n0.length) - n1.length) - n2.length) - n3.length) - n4.length) - n5.length) = (((((left - n0.length) - n1.length) - n2.length) - n3.length) - n4.length) - n5.length := IntWalk.i64_in _ (by omega)
  simp -implicitDefEqProofs only [w5, S0, S1, S2, S3, S4, S5, S6, S7, S8, S9, S10, S11, S12, S13, S14, S15, S16, S17, opv, opvs, eget, env0, setD, lenStr, lenSl, isNilP, isNilS, putAt, if_true, if_false, reduceCtorEq, Nat.reduceLeDiff, Nat.reduceEqDiff, Nat.reduceSub, Nat.reduceMul, Nat.reduceAdd]
  refine cond_split (fun h => ?_) (fun h => ?_)
  · simp -implicitDefEqProofs only [S0, S1, S2, S3, S4, S5, S6, S7, S8, S9, S10, S11, S12, S13, S14, S15, S16, S17, opv, opvs, eget, env0, setD, lenStr, lenSl, isNilP, isNilS, putAt, if_true, if_false, reduceCtorEq, Nat.reduceLeDiff, Nat.reduceEqDiff, Nat.reduceSub, Nat.reduceMul, Nat.reduceAdd]
    simp only [decide_eq_true_eq] at h
    exact fin (by omega) (by omega)
  simp only [decide_eq_false_iff_not, Int.not_lt] at h
  simp -implicitDefEqProofs only [S0, S1, S2, S3, S4, S5, S6, S7, S8, S9, S10, S11, S12, S13, S14, S15, S16, S17, opv, opvs, eget, env0, setD, lenStr, lenSl, isNilP, isNilS, putAt, if_true, if_false, reduceCtorEq, Nat.reduceLeDiff, Nat.reduceEqDiff, Nat.reduceSub, Nat.reduceMul, Nat.reduceAdd]
  exact fin (by omega) (fun _ => by omega)
def c_laws_eqGateMend : C := (.seq (.ops [⟨(some 2), none, (.box (.t 0))⟩, ⟨(some 3), none, (.box (.t 1))⟩, ⟨(some 4), none, (.mv (.c (.t (.bool false))))⟩]) (.seq (.seq (.ops [⟨(some 5), none, (.fieldAddr 0 (.t 2))⟩, ⟨(some 6), none, (.load none (.t 5))⟩, ⟨(some 7), none, (.fieldAddr 0 (.t 3))⟩, ⟨(some 8), none, (.load none (.t 7))⟩, ⟨(some 9), none, (.bin .neq (.t 6) (.t 8))⟩]) (.cond (.t 9) (.seq (.ops [⟨(some 4), none, (.mv (.c (.t (.bool false))))⟩]) .ret) .skip)) (.seq (.seq (.ops [⟨(some 10), none, (.fieldAddr 1 (.t 2))⟩, ⟨(some 11), none, (.load none (.t 10))⟩, ⟨(some 12), none, (.fieldAddr 1 (.t 3))⟩, ⟨(some 13), none, (.load none (.t 12))⟩, ⟨(some 14), none, (.bin .neq (.t 11) (.t 13))⟩]) (.cond (.t 14) (.seq (.ops [⟨(some 4), none, (.mv (.c (.t (.bool false))))⟩]) .ret) .skip)) (.seq (.seq (.ops [⟨(some 15), none, (.fieldAddr 2 (.t 2))⟩, ⟨(some 16), none, (.load none (.t 15))⟩, ⟨(some 17), none, (.fieldAddr 2 (.t 3))⟩, ⟨(some 18), none, (.load none (.t 17))⟩, ⟨(some 19), none, (.bin .neq (.t 16) (.t 18))⟩]) (.cond (.t 19) (.seq (.ops [⟨(some 4), none, (.mv (.c (.t (.bool false))))⟩]) .ret) .skip)) (.seq (.seq (.ops [⟨(some 20), none, (.fieldAddr 3 (.t 2))⟩, ⟨(some 21), none, (.load none (.t 20))⟩, ⟨(some 22), none, (.fieldAddr 3 (.t 3))⟩, ⟨(some 23), none, (.load none (.t 22))⟩, ⟨(some 24), none, (.bin .neq (.t 21) (.t 23))⟩]) (.cond (.t 24) (.seq (.ops [⟨(some 4), none, (.mv (.c (.t (.bool false))))⟩]) .ret) .skip)) (.seq (.seq (.ops [⟨(some 25), none, (.fieldAddr 4 (.t 2))⟩, ⟨(some 26), none, (.load none (.t 25))⟩, ⟨(some 27), none, (.fieldAddr 4 (.t 3))⟩, ⟨(some 28), none, (.load none (.t 27))⟩, ⟨(some 29), none, (.bin .neq (.t 26) (.t 28))⟩]) (.cond (.t 29) (.seq (.ops [⟨(some 4), none, (.mv (.c (.t (.bool false))))⟩]) .ret) .skip)) (.seq (.seq (.ops [⟨(some 30), none, (.fieldAddr 5 (.t 2))⟩, ⟨(some 31), none, (.load none (.t 30))⟩, ⟨(some 32), none, (.fieldAddr 5 (.t 3))⟩, ⟨(some 33), none, (.load none (.t 32))⟩, ⟨(some 34), none, (.bin .neq (.t 31) (.t 33))⟩]) (.cond (.t 34) (.seq (.ops [⟨(some 4), none, (.mv (.c (.t (.bool false))))⟩]) .ret) .skip)) (.seq (.ops [⟨(some 4), none, (.mv (.c (.t (.bool true))))⟩]) .ret))))))))
theorem k_laws_eqGateMend : comp Try.prog 35 (Try.f24.body.getD .skip) = some c_laws_eqGateMend := by kernel_rfl

theorem eqGateMend : EqLOk Try.prog 24 shGateMend := by
  rintro ts σ ht h1
  obtain ⟨n0, n1, n2, n3, n4, n5, rfl, b0, b1, b2, b3, b4, b5⟩ := isGateMend ht
  rw [sizeGateMend] at h1
  refine acalls_of Try.func24 (by decide +kernel) (code := Try.f24.body.getD .skip) (n := 35) (c := c_laws_eqGateMend) (rs := [(.tmp 4)]) rfl rfl k_laws_eqGateMend (by kernel_rfl) (by simp) (fun hσ => ?_)
  simp -implicitDefEqProofs only [c_laws_eqGateMend, ne_self, beq_self_eq_true, S0, S1, S2, S3, S4, S5, S6, S7, S8, S9, S10, S11, S12, S13, S14, S15, S16, S17, opv, opvs, eget, env0, setD, lenStr, lenSl, isNilP, isNilS, putAt, if_true, if_false, reduceCtorEq, Nat.reduceLeDiff, Nat.reduceEqDiff, Nat.reduceSub, Nat.reduceMul, Nat.reduceAdd]
  exact ret_same rfl hσ rfl ⟨rfl, rfl⟩
def c_laws_toGateMend : C := (.seq (.ops [⟨(some 1), none, (.box (.t 0))⟩, ⟨(some 2), none, (.new [(.t (.str [])), (.t (.str [])), (.t (.str [])), (.t (.str [])), (.t (.str [])), (.t (.str []))])⟩]) (.seq (.ops [⟨(some 3), none, (.new [(.t (.str [])), (.t (.str [])), (.t (.str [])), (.t (.str [])), (.t (.str [])), (.t (.str []))])⟩]) (.seq (.ops [⟨(some 4), none, (.fieldAddr 0 (.t 1))⟩, ⟨(some 5), none, (.load none (.t 4))⟩, ⟨(some 6), none, (.fieldAddr 0 (.t 3))⟩, ⟨none, none, (.store 1 (.t 6) (.t 5))⟩]) (.seq (.ops [⟨(some 7), none, (.fieldAddr 1 (.t 1))⟩, ⟨(some 8), none, (.load none (.t 7))⟩, ⟨(some 9), none, (.fieldAddr 1 (.t 3))⟩, ⟨none, none, (.store 1 (.t 9) (.t 8))⟩]) (.seq (.ops [⟨(some 10), none, (.fieldAddr 2 (.t 1))⟩, ⟨(some 11), none, (.load none (.t 10))⟩, ⟨(some 12), none, (.fieldAddr 2 (.t 3))⟩, ⟨none, none, (.store 1 (.t 12) (.t 11))⟩]) (.seq (.ops [⟨(some 13), none, (.fieldAddr 3 (.t 1))⟩, ⟨(some 14), none, (.load none (.t 13))⟩, ⟨(some 15), none, (.fieldAddr 3 (.t 3))⟩, ⟨none, none, (.store 1 (.t 15) (.t 14))⟩]) (.seq (.ops [⟨(some 16), none, (.fieldAddr 4 (.t 1))⟩, ⟨(some 17), none, (.load none (.t 16))⟩, ⟨(some 18), none, (.fieldAddr 4 (.t 3))⟩, ⟨none, none, (.store 1 (.t 18) (.t 17))⟩]) (.seq (.ops [⟨(some 19), none, (.fieldAddr 5 (.t 1))⟩, ⟨(some 20), none, (.load none (.t 19))⟩, ⟨(some 21), none, (.fieldAddr 5 (.t 3))⟩, ⟨none, none, (.store 1 (.t 21) (.t 20))⟩]) (.seq (.ops [⟨(some 22), none, (.load (some 6) (.t 3))⟩, ⟨none, none, (.store 6 (.t 2) (.t 22))⟩]) .ret)))))))))
theorem k_laws_toGateMend : comp Try.prog 23 (Try.f18.body.getD .skip) = some c_laws_toGateMend := by kernel_rfl

theorem toGateMend : ToLOk Try.prog 18 shGateMend := by
  rintro ts σ ht h1
  obtain ⟨n0, n1, n2, n3, n4, n5, rfl, b0, b1, b2, b3, b4, b5⟩ := isGateMend ht
  rw [sizeGateMend] at h1
  refine acalls_of Try.func18 (by decide +kernel) (code := Try.f18.body.getD .skip) (n := 23) (c := c_laws_toGateMend) (rs := [(.cell 2 (some 6))]) rfl rfl k_laws_toGateMend (by kernel_rfl) (by simp) (fun hσ => ?_)
  simp -implicitDefEqProofs only [c_laws_toGateMend, S0, S1, S2, S3, S4, S5, S6, S7, S8, S9, S10, S11, S12, S13, S14, S15, S16, S17, opv, opvs, eget, env0, setD, lenStr, lenSl, isNilP, isNilS, putAt, if_true, if_false, reduceCtorEq, Nat.reduceLeDiff, Nat.reduceEqDiff, Nat.reduceSub, Nat.reduceMul, Nat.reduceAdd]
  exact fin_keep (by simp) ⟨_, _, [], rfl, rfl, (OwnL.str (OwnL.str (OwnL.str (OwnL.str (OwnL.str (OwnL.str OwnL.nil0)))))), Wi.nil⟩
theorem i_szGateMendS : Is Try.prog 5 27 [(.tmp 4)] (tSzS 6 13) := ⟨_, _, Try.func5, by decide +kernel, rfl, rfl, by kernel_rfl, rfl⟩
theorem szGateMendS : SzOk Try.prog 5 (.sl 6 shGateMend) := szS_ok rfl i_szGateMendS szGateMend
theorem i_eqGateMendS : Is Try.prog 11 27 [(.tmp 4)] (tEqS 6 24) := ⟨_, _, Try.func11, by decide +kernel, rfl, rfl, by kernel_rfl, rfl⟩
theorem eqGateMendS : EqOk Try.prog 11 (.sl 6 shGateMend) := eqS_ok rfl i_eqGateMendS eqGateMend
theorem i_toGateMendS : Is Try.prog 8 23 [(.tmp 2)] (tToS 6 96 18 [.t (.str []), .t (.str []), .t (.str []), .t (.str []), .t (.str []), .t (.str [])]) := ⟨_, _, Try.func8, by decide +kernel, rfl, rfl, by kernel_rfl, rfl⟩
theorem toGateMendS : ToOk Try.prog 8 (.sl 6 shGateMend) := toS_ok 96 [.t (.str []), .t (.str []), .t (.str []), .t (.str []), .t (.str []), .t (.str [])] rfl (by decide) rfl (by decide) i_toGateMendS toGateMend
end Go.Proofs.Ytcjchimenfadkaa.W

end


section
open Go Go.Ab
namespace Go.Proofs.Ytcjchimenfadkaa.W
structure GateField where
  Name : List UInt8
  Kind : Int
  Least : Int
  Most : Int
  Words : List (List UInt8)
  To : List UInt8
  Role : Int
  Must : Bool
  Fixed : Bool
  Default : List UInt8
  Weighs : List UInt8
def GateField.ts (x : GateField) : List T := [.str x.Name, .int .i64 x.Kind, .int .i64 x.Least, .int .i64 x.Most, .lst 1 (x.Words.map tStr), .str x.To, .int .i64 x.Role, .bool x.Must, .bool x.Fixed, .str x.Default, .str x.Weighs]
abbrev GateField.vs (x : GateField) : List V := [.t (.str x.Name), .t (.int .i64 x.Kind), .t (.int .i64 x.Least), .t (.int .i64 x.Most), .t (.lst 1 (x.Words.map tStr)), .t (.str x.To), .t (.int .i64 x.Role), .t (.bool x.Must), .t (.bool x.Fixed), .t (.str x.Default), .t (.str x.Weighs)]
theorem GateField.vs_ts (x : GateField) : x.ts.map V.t = x.vs := rfl
structure GateField.Ok (x : GateField) : Prop where
  Name : x.Name.length ≤ 1048576
  Kind : i64r x.Kind
  Least : i64r x.Least
  Most : i64r x.Most
  Words : StrsOk x.Words
  To : x.To.length ≤ 1048576
  Role : i64r x.Role
  Default : x.Default.length ≤ 1048576
  Weighs : x.Weighs.length ≤ 1048576
abbrev tGateFieldS (l : List GateField) : T := .lst 11 (l.map GateField.ts)
abbrev GateField.OkS (l : List GateField) : Prop := l.length ≤ 1048576 ∧ ∀ y ∈ l, y.Ok
theorem of_GateField {ts : List T} (h : T.isL shGateField ts) : ∃ x : GateField, ts = x.ts ∧ (T.sizeL ts ≤ 1048576 → x.Ok) := by
  obtain ⟨n0, n1, n2, n3, n4, n5, n6, n7, n8, n9, n10, rfl, b0, b1, b2, b3, b4, b5, b6, b9, b10⟩ := isGateField h
  obtain ⟨l4, rfl, c4⟩ := of_strs b4
  refine ⟨⟨n0, n1, n2, n3, l4, n5, n6, n7, n8, n9, n10⟩, rfl, fun hz => ?_⟩
  rw [sizeGateField] at hz
  exact ⟨by simp only; omega, wf_i64 b1, wf_i64 b2, wf_i64 b3, c4 (by omega), by simp only; omega, wf_i64 b6, by simp only; omega, by simp only; omega⟩
theorem of_GateFieldS {t : T} (h : T.is (.sl 11 shGateField) t) : ∃ l : List GateField, t = .lst 11 (l.map GateField.ts) ∧ (t.size ≤ 1048576 → GateField.OkS l) := of_list (fun ts h => of_GateField h) h
structure GateShape where
  Kind : List UInt8
  Fields : List GateField
def GateShape.ts (x : GateShape) : List T := [.str x.Kind, .lst 11 (x.Fields.map GateField.ts)]
abbrev GateShape.vs (x : GateShape) : List V := [.t (.str x.Kind), .t (.lst 11 (x.Fields.map GateField.ts))]
theorem GateShape.vs_ts (x : GateShape) : x.ts.map V.t = x.vs := rfl
structure GateShape.Ok (x : GateShape) : Prop where
  Kind : x.Kind.length ≤ 1048576
  Fields : GateField.OkS x.Fields
abbrev tGateShapeS (l : List GateShape) : T := .lst 2 (l.map GateShape.ts)
abbrev GateShape.OkS (l : List GateShape) : Prop := l.length ≤ 1048576 ∧ ∀ y ∈ l, y.Ok
theorem of_GateShape {ts : List T} (h : T.isL shGateShape ts) : ∃ x : GateShape, ts = x.ts ∧ (T.sizeL ts ≤ 1048576 → x.Ok) := by
  obtain ⟨n0, n1, rfl, b0, b1⟩ := isGateShape h
  obtain ⟨l1, rfl, c1⟩ := of_GateFieldS b1
  refine ⟨⟨n0, l1⟩, rfl, fun hz => ?_⟩
  rw [sizeGateShape] at hz
  exact ⟨by simp only; omega, c1 (by omega)⟩
theorem of_GateShapeS {t : T} (h : T.is (.sl 2 shGateShape) t) : ∃ l : List GateShape, t = .lst 2 (l.map GateShape.ts) ∧ (t.size ≤ 1048576 → GateShape.OkS l) := of_list (fun ts h => of_GateShape h) h
structure GateMend where
  Kind : List UInt8
  Field : List UInt8
  When : List UInt8
  Is : List UInt8
  Put : List UInt8
  From : List UInt8
def GateMend.ts (x : GateMend) : List T := [.str x.Kind, .str x.Field, .str x.When, .str x.Is, .str x.Put, .str x.From]
abbrev GateMend.vs (x : GateMend) : List V := [.t (.str x.Kind), .t (.str x.Field), .t (.str x.When), .t (.str x.Is), .t (.str x.Put), .t (.str x.From)]
theorem GateMend.vs_ts (x : GateMend) : x.ts.map V.t = x.vs := rfl
structure GateMend.Ok (x : GateMend) : Prop where
  Kind : x.Kind.length ≤ 1048576
  Field : x.Field.length ≤ 1048576
  When : x.When.length ≤ 1048576
  Is : x.Is.length ≤ 1048576
  Put : x.Put.length ≤ 1048576
  From : x.From.length ≤ 1048576
abbrev tGateMendS (l : List GateMend) : T := .lst 6 (l.map GateMend.ts)
abbrev GateMend.OkS (l : List GateMend) : Prop := l.length ≤ 1048576 ∧ ∀ y ∈ l, y.Ok
theorem of_GateMend {ts : List T} (h : T.isL shGateMend ts) : ∃ x : GateMend, ts = x.ts ∧ (T.sizeL ts ≤ 1048576 → x.Ok) := by
  obtain ⟨n0, n1, n2, n3, n4, n5, rfl, b0, b1, b2, b3, b4, b5⟩ := isGateMend h
  refine ⟨⟨n0, n1, n2, n3, n4, n5⟩, rfl, fun hz => ?_⟩
  rw [sizeGateMend] at hz
  exact ⟨by simp only; omega, by simp only; omega, by simp only; omega, by simp only; omega, by simp only; omega, by simp only; omega⟩
theorem of_GateMendS {t : T} (h : T.is (.sl 6 shGateMend) t) : ∃ l : List GateMend, t = .lst 6 (l.map GateMend.ts) ∧ (t.size ≤ 1048576 → GateMend.OkS l) := of_list (fun ts h => of_GateMend h) h
end Go.Proofs.Ytcjchimenfadkaa.W

end
