/- FnExactSheetFits: what the law's code does: it returns true. Conditions: none. -/
import Derived.Test.YtkppdeobinefbaaDoorSheetFits3
set_option linter.unusedSimpArgs false
set_option linter.unusedVariables false
set_option linter.defProp false
open Go Go.Ab
set_option maxHeartbeats 4000000
namespace Go.Proofs.YtkppdeobinefbaaDoor.LSheetFits
open Go.Proofs.YtkppdeobinefbaaDoor.W
def c_laws_FnExactSheetFits : C := (.seq (.ops [⟨(some 6), none, (.mv (.c (.t (.bool false))))⟩]) (.seq (.seq (.ops [⟨(some 11), none, (.mv (.t 0))⟩, ⟨(some 12), none, (.len true (.t 11))⟩, ⟨(some 13), none, (.bin .gtr (.t 12) (.c (.t (.int .i64 1048576))))⟩]) (.cond (.t 13) (.seq (.ops [⟨(some 6), none, (.mv (.c (.t (.bool true))))⟩]) .ret) .skip)) (.seq (.seq (.ops [⟨(some 14), none, (.mv (.t 1))⟩, ⟨(some 15), none, (.len true (.t 14))⟩, ⟨(some 16), none, (.bin .gtr (.t 15) (.c (.t (.int .i64 1048576))))⟩]) (.cond (.t 16) (.seq (.ops [⟨(some 6), none, (.mv (.c (.t (.bool true))))⟩]) .ret) .skip)) (.seq (.ops [⟨(some 7), none, (.mv (.c (.t (.int .i64 1048576))))⟩]) (.seq (.ops [⟨(some 17), none, (.mv (.t 2))⟩, ⟨(some 18), none, (.mv (.t 7))⟩, ⟨(some 19), none, (.call (.c (.fn (.func 22) [])) [(.t 17), (.t 18)])⟩, ⟨(some 7), none, (.mv (.t 19))⟩]) (.seq (.seq (.ops [⟨(some 20), none, (.mv (.t 7))⟩, ⟨(some 21), none, (.bin .lss (.t 20) (.c (.t (.int .i64 0))))⟩]) (.cond (.t 21) (.seq (.ops [⟨(some 6), none, (.mv (.c (.t (.bool true))))⟩]) .ret) .skip)) (.seq (.ops [⟨(some 22), none, (.mv (.t 0))⟩, ⟨(some 23), none, (.mv (.t 1))⟩, ⟨(some 24), none, (.mv (.t 2))⟩, ⟨(some 25), none, (.call (.c (.fn (.func 23) [])) [(.t 24)])⟩, ⟨(some 26), none, (.call (.c (.fn (.func 21) [])) [(.t 22), (.t 23), (.t 25)])⟩, ⟨(some 8), none, (.mv (.t 26))⟩]) (.seq (.ops [⟨(some 27), none, (.mv (.t 2))⟩, ⟨(some 28), none, (.call (.c (.fn (.func 23) [])) [(.t 27)])⟩, ⟨(some 9), none, (.mv (.t 28))⟩]) (.seq (.ops [⟨(some 29), none, (.mv (.t 0))⟩, ⟨(some 30), none, (.mv (.t 1))⟩, ⟨(some 31), none, (.mv (.t 9))⟩, ⟨(some 32), none, (.call (.c (.fn (.func 19) [])) [(.t 29), (.t 30), (.t 31)])⟩, ⟨(some 10), none, (.mv (.t 32))⟩]) (.seq (.seq (.ops [⟨(some 33), none, (.mv (.t 10))⟩, ⟨(some 34), none, (.mv (.t 8))⟩, ⟨(some 35), none, (.eqB true (.t 33) (.t 34))⟩]) (.cond (.t 35) (.seq (.ops [⟨(some 6), none, (.mv (.c (.t (.bool false))))⟩]) .ret) .skip)) (.seq (.seq (.ops [⟨(some 36), none, (.mv (.t 9))⟩, ⟨(some 37), none, (.mv (.t 2))⟩, ⟨(some 38), none, (.call (.c (.fn (.func 23) [])) [(.t 37)])⟩, ⟨(some 39), none, (.call (.c (.fn (.func 24) [])) [(.t 36), (.t 38)])⟩, ⟨(some 40), none, (.un .not (.t 39))⟩]) (.cond (.t 40) (.seq (.ops [⟨(some 6), none, (.mv (.c (.t (.bool false))))⟩]) .ret) .skip)) (.seq (.ops [⟨(some 6), none, (.mv (.c (.t (.bool true))))⟩]) .ret))))))))))))
theorem k_laws_FnExactSheetFits : comp Tryd.prog 41 (Tryd.f5.body.getD .skip) = some c_laws_FnExactSheetFits := by kernel_rfl

theorem lawSheetFits (a0 : List UInt8) (a1 : List UInt8) (a2 : List (List UInt8)) (h0 : a0.length ≤ maxLen) (h1 : a1.length ≤ maxLen) (h2 : T.is (.sl 1 [.str]) (tStrs a2)) (q2 : (tStrs a2).size ≤ 1048576 → StrsOk a2) (σ : Store) : ACalls Tryd.prog 5 [.t (.str a0), .t (.str a1), .t (tStrs a2)] σ fun r _ => r = .t (.bool true) := by
  refine acalls_of Tryd.func5 (by decide +kernel) (code := Tryd.f5.body.getD .skip) (n := 41) (c := c_laws_FnExactSheetFits) (rs := [(.tmp 6)]) rfl rfl k_laws_FnExactSheetFits (by kernel_rfl) (by simp) (fun hσ => ?_)
  try simp only [maxLen] at *
  have fin : ∀ {τ : Store}, retV σ.length (fun r _ => r = .t (.bool true)) (σ ++ τ) (some [.t (.bool true)]) := ret_same rfl hσ rfl rfl
  have fin0 : retV σ.length (fun r _ => r = .t (.bool true)) σ (some [.t (.bool true)]) := ret_same0 rfl rfl
  simp -implicitDefEqProofs only [c_laws_FnExactSheetFits, tStrs, List.length_map, S0, S1, S2, S3, S4, S5, S6, S7, S8, S9, S10, S11, S12, S13, S14, S15, S16, S17, opv, opvs, eget, env0, setD, lenStr, lenSl, isNilP, isNilS, putAt, if_true, if_false, reduceCtorEq, Nat.reduceLeDiff, Nat.reduceEqDiff, Nat.reduceSub, Nat.reduceMul, Nat.reduceAdd]
  refine cond_split (fun g0 => ?_) (fun g0 => ?_)
  · simp -implicitDefEqProofs only [S0, S1, S2, S3, S4, S5, S6, S7, S8, S9, S10, S11, S12, S13, S14, S15, S16, S17, opv, opvs, eget, env0, setD, lenStr, lenSl, isNilP, isNilS, putAt, if_true, if_false, reduceCtorEq, Nat.reduceLeDiff, Nat.reduceEqDiff, Nat.reduceSub, Nat.reduceMul, Nat.reduceAdd]
    first | exact fin | exact fin0
  replace g0 : a0.length ≤ 1048576 := by simp at g0; omega
  simp -implicitDefEqProofs only [fitsR, ne_self, beq_self_eq_true, S0, S1, S2, S3, S4, S5, S6, S7, S8, S9, S10, S11, S12, S13, S14, S15, S16, S17, opv, opvs, eget, env0, setD, lenStr, lenSl, isNilP, isNilS, putAt, if_true, if_false, reduceCtorEq, Nat.reduceLeDiff, Nat.reduceEqDiff, Nat.reduceSub, Nat.reduceMul, Nat.reduceAdd]
  refine cond_split (fun g1 => ?_) (fun g1 => ?_)
  · simp -implicitDefEqProofs only [S0, S1, S2, S3, S4, S5, S6, S7, S8, S9, S10, S11, S12, S13, S14, S15, S16, S17, opv, opvs, eget, env0, setD, lenStr, lenSl, isNilP, isNilS, putAt, if_true, if_false, reduceCtorEq, Nat.reduceLeDiff, Nat.reduceEqDiff, Nat.reduceSub, Nat.reduceMul, Nat.reduceAdd]
    first | exact fin | exact fin0
  replace g1 : a1.length ≤ 1048576 := by simp at g1; omega
  simp -implicitDefEqProofs only [fitsR, ne_self, beq_self_eq_true, S0, S1, S2, S3, S4, S5, S6, S7, S8, S9, S10, S11, S12, S13, S14, S15, S16, S17, opv, opvs, eget, env0, setD, lenStr, lenSl, isNilP, isNilS, putAt, if_true, if_false, reduceCtorEq, Nat.reduceLeDiff, Nat.reduceEqDiff, Nat.reduceSub, Nat.reduceMul, Nat.reduceAdd]
  refine call_by (by rw [List.append_nil]; exact szStringS (tStrs a2) 1048576 _ h2 (by omega) (by omega)) ?_
  rintro r σ' ⟨⟨m1, rfl, hm1, hs1⟩, rfl⟩
  simp -implicitDefEqProofs only [fitsR, ne_self, beq_self_eq_true, S0, S1, S2, S3, S4, S5, S6, S7, S8, S9, S10, S11, S12, S13, S14, S15, S16, S17, opv, opvs, eget, env0, setD, lenStr, lenSl, isNilP, isNilS, putAt, if_true, if_false, reduceCtorEq, Nat.reduceLeDiff, Nat.reduceEqDiff, Nat.reduceSub, Nat.reduceMul, Nat.reduceAdd]
  refine cond_split (fun h => ?_) (fun h => ?_)
  · simp -implicitDefEqProofs only [S0, S1, S2, S3, S4, S5, S6, S7, S8, S9, S10, S11, S12, S13, S14, S15, S16, S17, opv, opvs, eget, env0, setD, lenStr, lenSl, isNilP, isNilS, putAt, if_true, if_false, reduceCtorEq, Nat.reduceLeDiff, Nat.reduceEqDiff, Nat.reduceSub, Nat.reduceMul, Nat.reduceAdd]
    first | exact fin | exact fin0
  simp only [decide_eq_false_iff_not, Int.not_lt] at h
  replace hs1 := hs1 h
  simp -implicitDefEqProofs only [fitsR, ne_self, beq_self_eq_true, S0, S1, S2, S3, S4, S5, S6, S7, S8, S9, S10, S11, S12, S13, S14, S15, S16, S17, opv, opvs, eget, env0, setD, lenStr, lenSl, isNilP, isNilS, putAt, if_true, if_false, reduceCtorEq, Nat.reduceLeDiff, Nat.reduceEqDiff, Nat.reduceSub, Nat.reduceMul, Nat.reduceAdd]
  have o0 : a0.length ≤ 1048576 := by omega
  have o1 : a1.length ≤ 1048576 := by omega
  have o2 := q2 (by omega)
  refine call_by (by rw [List.append_nil]; exact toStringS (tStrs a2) _ h2 (by omega)) ?_
  rintro u1 σ' ⟨τ1, j1, rfl, p1, w1⟩
  clear w1
  have e1 := p1.one
  simp -implicitDefEqProofs only [fitsR, one_cells e1, e1, ne_self, beq_self_eq_true, S0, S1, S2, S3, S4, S5, S6, S7, S8, S9, S10, S11, S12, S13, S14, S15, S16, S17, opv, opvs, eget, env0, setD, lenStr, lenSl, isNilP, isNilS, putAt, if_true, if_false, reduceCtorEq, Nat.reduceLeDiff, Nat.reduceEqDiff, Nat.reduceSub, Nat.reduceMul, Nat.reduceAdd]
  refine call_bor (fun σ => spec_SheetFits a0 o0 a1 o1 a2 o2 σ) rfl ⟨_, _, rfl, sees_one rfl, _, _, rfl, sees_one rfl, _, _, rfl, sees_lst p1 rfl (by simp), rfl⟩ ?_
  simp -implicitDefEqProofs only [fitsR, one_cells e1, e1, ne_self, beq_self_eq_true, S0, S1, S2, S3, S4, S5, S6, S7, S8, S9, S10, S11, S12, S13, S14, S15, S16, S17, opv, opvs, eget, env0, setD, lenStr, lenSl, isNilP, isNilS, putAt, if_true, if_false, reduceCtorEq, Nat.reduceLeDiff, Nat.reduceEqDiff, Nat.reduceSub, Nat.reduceMul, Nat.reduceAdd]
  refine call_by (by rw [List.append_nil]; exact toStringS (tStrs a2) _ h2 (by omega)) ?_
  rintro u2 σ' ⟨τ2, j2, rfl, p2, w2⟩
  clear w2
  have e2 := p2.one
  simp -implicitDefEqProofs only [fitsR, one_cells e1, e1, one_cells e2, e2, ne_self, beq_self_eq_true, S0, S1, S2, S3, S4, S5, S6, S7, S8, S9, S10, S11, S12, S13, S14, S15, S16, S17, opv, opvs, eget, env0, setD, lenStr, lenSl, isNilP, isNilS, putAt, if_true, if_false, reduceCtorEq, Nat.reduceLeDiff, Nat.reduceEqDiff, Nat.reduceSub, Nat.reduceMul, Nat.reduceAdd]
  refine call_bor (fun σ => impl_SheetFits a0 o0 a1 o1 a2 o2 σ) rfl ⟨_, _, rfl, sees_one rfl, _, _, rfl, sees_one rfl, _, _, rfl, sees_lst p2 rfl (by simp), rfl⟩ ?_
  simp -implicitDefEqProofs only [fitsR, one_cells e1, e1, one_cells e2, e2, ne_self, beq_self_eq_true, S0, S1, S2, S3, S4, S5, S6, S7, S8, S9, S10, S11, S12, S13, S14, S15, S16, S17, opv, opvs, eget, env0, setD, lenStr, lenSl, isNilP, isNilS, putAt, if_true, if_false, reduceCtorEq, Nat.reduceLeDiff, Nat.reduceEqDiff, Nat.reduceSub, Nat.reduceMul, Nat.reduceAdd]
  refine call_by (by rw [List.append_nil]; exact toStringS (tStrs a2) _ h2 (by omega)) ?_
  rintro u3 σ' ⟨τ3, j3, rfl, p3, w3⟩
  clear w3
  have e3 := p3.one
  simp -implicitDefEqProofs only [fitsR, one_cells e1, e1, one_cells e2, e2, one_cells e3, e3, ne_self, beq_self_eq_true, S0, S1, S2, S3, S4, S5, S6, S7, S8, S9, S10, S11, S12, S13, S14, S15, S16, S17, opv, opvs, eget, env0, setD, lenStr, lenSl, isNilP, isNilS, putAt, if_true, if_false, reduceCtorEq, Nat.reduceLeDiff, Nat.reduceEqDiff, Nat.reduceSub, Nat.reduceMul, Nat.reduceAdd]
  refine call_bor (fun σ => eqStringS (tStrs a2) σ h2 (by omega)) rfl ⟨_, _, rfl, sees_lst p2 rfl (by simp), _, _, rfl, sees_lst p3 rfl (by simp), rfl⟩ ?_
  simp -implicitDefEqProofs only [fitsR, one_cells e1, e1, one_cells e2, e2, one_cells e3, e3, ne_self, beq_self_eq_true, S0, S1, S2, S3, S4, S5, S6, S7, S8, S9, S10, S11, S12, S13, S14, S15, S16, S17, opv, opvs, eget, env0, setD, lenStr, lenSl, isNilP, isNilS, putAt, if_true, if_false, reduceCtorEq, Nat.reduceLeDiff, Nat.reduceEqDiff, Nat.reduceSub, Nat.reduceMul, Nat.reduceAdd]
  first | exact fin | exact fin0
end Go.Proofs.YtkppdeobinefbaaDoor.LSheetFits
