/- FnExactGateShapesOk: what the law's code does: it returns true. Conditions: none. -/
import Derived.Test.YtgdmgoidfglobaaGateShapesOk
set_option linter.unusedSimpArgs false
set_option linter.unusedVariables false
set_option linter.defProp false
open Go Go.Ab
set_option maxHeartbeats 4000000
namespace Go.Proofs.Ytgdmgoidfglobaa.LGateShapesOk
open Go.Proofs.Ytgdmgoidfglobaa.W
def c_laws_FnExactGateShapesOk : C := (.seq (.ops [⟨(some 2), none, (.mv (.c (.t (.bool false))))⟩]) (.seq (.ops [⟨(some 3), none, (.mv (.c (.t (.int .i64 1048576))))⟩]) (.seq (.ops [⟨(some 7), none, (.mv (.t 0))⟩, ⟨(some 8), none, (.mv (.t 3))⟩, ⟨(some 9), none, (.call (.c (.fn (.func 50) [])) [(.t 7), (.t 8)])⟩, ⟨(some 3), none, (.mv (.t 9))⟩]) (.seq (.seq (.ops [⟨(some 10), none, (.mv (.t 3))⟩, ⟨(some 11), none, (.bin .lss (.t 10) (.c (.t (.int .i64 0))))⟩]) (.cond (.t 11) (.seq (.ops [⟨(some 2), none, (.mv (.c (.t (.bool true))))⟩]) .ret) .skip)) (.seq (.ops [⟨(some 12), none, (.mv (.t 0))⟩, ⟨(some 13), none, (.call (.c (.fn (.func 52) [])) [(.t 12)])⟩, ⟨(some 14), none, (.call (.c (.fn (.func 51) [])) [(.t 13)])⟩, ⟨(some 4), none, (.mv (.t 14))⟩]) (.seq (.ops [⟨(some 15), none, (.mv (.t 0))⟩, ⟨(some 16), none, (.call (.c (.fn (.func 52) [])) [(.t 15)])⟩, ⟨(some 5), none, (.mv (.t 16))⟩]) (.seq (.ops [⟨(some 17), none, (.mv (.t 5))⟩, ⟨(some 18), none, (.call (.c (.fn (.func 53) [])) [(.t 17)])⟩, ⟨(some 6), none, (.mv (.t 18))⟩]) (.seq (.seq (.ops [⟨(some 19), none, (.mv (.t 6))⟩, ⟨(some 20), none, (.mv (.t 4))⟩, ⟨(some 21), none, (.eqB true (.t 19) (.t 20))⟩]) (.cond (.t 21) (.seq (.ops [⟨(some 2), none, (.mv (.c (.t (.bool false))))⟩]) .ret) .skip)) (.seq (.seq (.ops [⟨(some 22), none, (.mv (.t 5))⟩, ⟨(some 23), none, (.mv (.t 0))⟩, ⟨(some 24), none, (.call (.c (.fn (.func 52) [])) [(.t 23)])⟩, ⟨(some 25), none, (.call (.c (.fn (.func 54) [])) [(.t 22), (.t 24)])⟩, ⟨(some 26), none, (.un .not (.t 25))⟩]) (.cond (.t 26) (.seq (.ops [⟨(some 2), none, (.mv (.c (.t (.bool false))))⟩]) .ret) .skip)) (.seq (.ops [⟨(some 2), none, (.mv (.c (.t (.bool true))))⟩]) .ret))))))))))
theorem k_laws_FnExactGateShapesOk : comp Try.prog 27 (Try.f10.body.getD .skip) = some c_laws_FnExactGateShapesOk := by kernel_rfl

theorem lawGateShapesOk (a0 : List GateShape) (h0 : T.is (.sl 2 shGateShape) (tGateShapeS a0)) (q0 : (tGateShapeS a0).size ≤ 1048576 → GateShape.OkS a0) (σ : Store) : ACalls Try.prog 10 [.t (tGateShapeS a0)] σ fun r _ => r = .t (.bool true) := by
  refine acalls_of Try.func10 (by decide +kernel) (code := Try.f10.body.getD .skip) (n := 27) (c := c_laws_FnExactGateShapesOk) (rs := [(.tmp 2)]) rfl rfl k_laws_FnExactGateShapesOk (by kernel_rfl) (by simp) (fun hσ => ?_)
  try simp only [maxLen] at *
  have fin : ∀ {τ : Store}, retV σ.length (fun r _ => r = .t (.bool true)) (σ ++ τ) (some [.t (.bool true)]) := ret_same rfl hσ rfl rfl
  have fin0 : retV σ.length (fun r _ => r = .t (.bool true)) σ (some [.t (.bool true)]) := ret_same0 rfl rfl
  simp -implicitDefEqProofs only [c_laws_FnExactGateShapesOk, tGateShapeS, List.length_map, S0, S1, S2, S3, S4, S5, S6, S7, S8, S9, S10, S11, S12, S13, S14, S15, S16, S17, opv, opvs, eget, env0, setD, lenStr, lenSl, isNilP, isNilS, putAt, if_true, if_false, reduceCtorEq, Nat.reduceLeDiff, Nat.reduceEqDiff, Nat.reduceSub, Nat.reduceMul, Nat.reduceAdd]
  refine call_by (by rw [List.append_nil]; exact szGateShapeS (tGateShapeS a0) 1048576 _ h0 (by omega) (by omega)) ?_
  rintro r σ' ⟨⟨m1, rfl, hm1, hs1⟩, rfl⟩
  simp -implicitDefEqProofs only [ne_self, beq_self_eq_true, S0, S1, S2, S3, S4, S5, S6, S7, S8, S9, S10, S11, S12, S13, S14, S15, S16, S17, opv, opvs, eget, env0, setD, lenStr, lenSl, isNilP, isNilS, putAt, if_true, if_false, reduceCtorEq, Nat.reduceLeDiff, Nat.reduceEqDiff, Nat.reduceSub, Nat.reduceMul, Nat.reduceAdd]
  refine cond_split (fun h => ?_) (fun h => ?_)
  · simp -implicitDefEqProofs only [S0, S1, S2, S3, S4, S5, S6, S7, S8, S9, S10, S11, S12, S13, S14, S15, S16, S17, opv, opvs, eget, env0, setD, lenStr, lenSl, isNilP, isNilS, putAt, if_true, if_false, reduceCtorEq, Nat.reduceLeDiff, Nat.reduceEqDiff, Nat.reduceSub, Nat.reduceMul, Nat.reduceAdd]
    first | exact fin | exact fin0
  simp only [decide_eq_false_iff_not, Int.not_lt] at h
  replace hs1 := hs1 h
  simp -implicitDefEqProofs only [ne_self, beq_self_eq_true, S0, S1, S2, S3, S4, S5, S6, S7, S8, S9, S10, S11, S12, S13, S14, S15, S16, S17, opv, opvs, eget, env0, setD, lenStr, lenSl, isNilP, isNilS, putAt, if_true, if_false, reduceCtorEq, Nat.reduceLeDiff, Nat.reduceEqDiff, Nat.reduceSub, Nat.reduceMul, Nat.reduceAdd]
  have o0 := q0 (by omega)
  refine call_by (by rw [List.append_nil]; exact toGateShapeS (tGateShapeS a0) _ h0 (by omega)) ?_
  rintro u1 σ' ⟨τ1, j1, rfl, p1, w1⟩
  clear w1
  have e1 := p1.one
  simp -implicitDefEqProofs only [one_cells e1, e1, ne_self, beq_self_eq_true, S0, S1, S2, S3, S4, S5, S6, S7, S8, S9, S10, S11, S12, S13, S14, S15, S16, S17, opv, opvs, eget, env0, setD, lenStr, lenSl, isNilP, isNilS, putAt, if_true, if_false, reduceCtorEq, Nat.reduceLeDiff, Nat.reduceEqDiff, Nat.reduceSub, Nat.reduceMul, Nat.reduceAdd]
  refine call_bor (fun σ => spec_GateShapesOk a0 o0 σ) rfl ⟨_, _, rfl, sees_lst p1 rfl (by simp), rfl⟩ ?_
  simp -implicitDefEqProofs only [one_cells e1, e1, ne_self, beq_self_eq_true, S0, S1, S2, S3, S4, S5, S6, S7, S8, S9, S10, S11, S12, S13, S14, S15, S16, S17, opv, opvs, eget, env0, setD, lenStr, lenSl, isNilP, isNilS, putAt, if_true, if_false, reduceCtorEq, Nat.reduceLeDiff, Nat.reduceEqDiff, Nat.reduceSub, Nat.reduceMul, Nat.reduceAdd]
  refine call_by (by rw [List.append_nil]; exact toGateShapeS (tGateShapeS a0) _ h0 (by omega)) ?_
  rintro u2 σ' ⟨τ2, j2, rfl, p2, w2⟩
  clear w2
  have e2 := p2.one
  simp -implicitDefEqProofs only [one_cells e1, e1, one_cells e2, e2, ne_self, beq_self_eq_true, S0, S1, S2, S3, S4, S5, S6, S7, S8, S9, S10, S11, S12, S13, S14, S15, S16, S17, opv, opvs, eget, env0, setD, lenStr, lenSl, isNilP, isNilS, putAt, if_true, if_false, reduceCtorEq, Nat.reduceLeDiff, Nat.reduceEqDiff, Nat.reduceSub, Nat.reduceMul, Nat.reduceAdd]
  refine call_bor (fun σ => impl_GateShapesOk a0 o0 σ) rfl ⟨_, _, rfl, sees_lst p2 rfl (by simp), rfl⟩ ?_
  simp -implicitDefEqProofs only [one_cells e1, e1, one_cells e2, e2, ne_self, beq_self_eq_true, S0, S1, S2, S3, S4, S5, S6, S7, S8, S9, S10, S11, S12, S13, S14, S15, S16, S17, opv, opvs, eget, env0, setD, lenStr, lenSl, isNilP, isNilS, putAt, if_true, if_false, reduceCtorEq, Nat.reduceLeDiff, Nat.reduceEqDiff, Nat.reduceSub, Nat.reduceMul, Nat.reduceAdd]
  refine call_by (by rw [List.append_nil]; exact toGateShapeS (tGateShapeS a0) _ h0 (by omega)) ?_
  rintro u3 σ' ⟨τ3, j3, rfl, p3, w3⟩
  clear w3
  have e3 := p3.one
  simp -implicitDefEqProofs only [one_cells e1, e1, one_cells e2, e2, one_cells e3, e3, ne_self, beq_self_eq_true, S0, S1, S2, S3, S4, S5, S6, S7, S8, S9, S10, S11, S12, S13, S14, S15, S16, S17, opv, opvs, eget, env0, setD, lenStr, lenSl, isNilP, isNilS, putAt, if_true, if_false, reduceCtorEq, Nat.reduceLeDiff, Nat.reduceEqDiff, Nat.reduceSub, Nat.reduceMul, Nat.reduceAdd]
  refine call_bor (fun σ => eqGateShapeS (tGateShapeS a0) σ h0 (by omega)) rfl ⟨_, _, rfl, sees_lst p2 rfl (by simp), _, _, rfl, sees_lst p3 rfl (by simp), rfl⟩ ?_
  simp -implicitDefEqProofs only [one_cells e1, e1, one_cells e2, e2, one_cells e3, e3, ne_self, beq_self_eq_true, S0, S1, S2, S3, S4, S5, S6, S7, S8, S9, S10, S11, S12, S13, S14, S15, S16, S17, opv, opvs, eget, env0, setD, lenStr, lenSl, isNilP, isNilS, putAt, if_true, if_false, reduceCtorEq, Nat.reduceLeDiff, Nat.reduceEqDiff, Nat.reduceSub, Nat.reduceMul, Nat.reduceAdd]
  first | exact fin | exact fin0
end Go.Proofs.Ytgdmgoidfglobaa.LGateShapesOk
