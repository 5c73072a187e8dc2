/- FnExactGateCheck: what the law's code does: it returns true. Conditions: none. -/
import Derived.Test.YtcjchimenfadkaaDoorGateChk
set_option linter.unusedSimpArgs false
set_option linter.unusedVariables false
set_option linter.defProp false
open Go Go.Ab
set_option maxHeartbeats 4000000
namespace Go.Proofs.YtcjchimenfadkaaDoor.LGateCheck
open Go.Proofs.YtcjchimenfadkaaDoor.W
theorem list7y {l : List V} (h : l.length = 7) : ∃ u0 u1 u2 u3 u4 u5 u6, l = [u0, u1, u2, u3, u4, u5, u6] := by
  match l, h with
  | [u0, u1, u2, u3, u4, u5, u6], _ => exact ⟨u0, u1, u2, u3, u4, u5, u6, rfl⟩
def c_laws_FnExactGateCheck : C := (.seq (.ops [⟨(some 3), none, (.box (.t 1))⟩, ⟨(some 4), none, (.mv (.c (.t (.bool false))))⟩]) (.seq (.ops [⟨(some 5), none, (.mv (.c (.t (.int .i64 1048576))))⟩]) (.seq (.ops [⟨(some 12), none, (.mv (.t 0))⟩, ⟨(some 13), none, (.mv (.t 5))⟩, ⟨(some 14), none, (.call (.c (.fn (.func 19) [])) [(.t 12), (.t 13)])⟩, ⟨(some 5), none, (.mv (.t 14))⟩]) (.seq (.seq (.ops [⟨(some 15), none, (.mv (.t 5))⟩, ⟨(some 16), none, (.bin .lss (.t 15) (.c (.t (.int .i64 0))))⟩]) (.cond (.t 16) (.seq (.ops [⟨(some 4), none, (.mv (.c (.t (.bool true))))⟩]) .ret) .skip)) (.seq (.ops [⟨(some 17), none, (.load (some 7) (.t 3))⟩, ⟨(some 18), none, (.mv (.t 5))⟩, ⟨(some 19), none, (.call (.c (.fn (.func 20) [])) [(.t 17), (.t 18)])⟩, ⟨(some 5), none, (.mv (.t 19))⟩]) (.seq (.seq (.ops [⟨(some 20), none, (.mv (.t 5))⟩, ⟨(some 21), none, (.bin .lss (.t 20) (.c (.t (.int .i64 0))))⟩]) (.cond (.t 21) (.seq (.ops [⟨(some 4), none, (.mv (.c (.t (.bool true))))⟩]) .ret) .skip)) (.seq (.drawn [(.mk 0 false ⟨(some 23), none, (.mv (.t 0))⟩ []), (.mk 2 false ⟨(some 25), none, (.load (some 7) (.t 3))⟩ []), (.mk 1 true ⟨(some 24), none, (.call (.c (.fn (.func 22) [])) [(.t 23)])⟩ [⟨(some 25), none, (.load (some 7) (.t 3))⟩]), (.mk 3 false ⟨(some 26), none, (.call (.c (.fn (.func 23) [])) [(.t 25)])⟩ []), (.mk 4 false ⟨(some 27), none, (.call (.c (.fn (.func 21) [])) [(.t 24), (.t 26)])⟩ []), (.mk 5 false ⟨(some 22), none, (.mv (.t 27))⟩ []), (.mk 6 false ⟨(some 28), none, (.extract (.t 22) 0)⟩ []), (.mk 7 false ⟨(some 29), none, (.extract (.t 22) 1)⟩ []), (.mk 8 false ⟨(some 6), none, (.mv (.t 28))⟩ []), (.mk 9 false ⟨(some 7), none, (.mv (.t 29))⟩ [])]) (.seq (.ops [⟨(some 30), none, (.mv (.t 0))⟩, ⟨(some 31), none, (.call (.c (.fn (.func 22) [])) [(.t 30)])⟩, ⟨(some 8), none, (.mv (.t 31))⟩]) (.seq (.ops [⟨(some 32), none, (.load (some 7) (.t 3))⟩, ⟨(some 33), none, (.call (.c (.fn (.func 23) [])) [(.t 32)])⟩, ⟨(some 9), none, (.new [(.t (.str [])), (.t (.str [])), (.t (.str [])), .nils, (.t (.bool false)), .nils, (.t (.int .i64 0))])⟩, ⟨none, none, (.store 7 (.t 9) (.t 33))⟩]) (.seq (.ops [⟨(some 35), none, (.mv (.t 8))⟩, ⟨(some 36), none, (.load (some 7) (.t 9))⟩, ⟨(some 37), none, (.call (.c (.fn (.func 24) [])) [(.t 35), (.t 36)])⟩, ⟨(some 34), none, (.mv (.t 37))⟩, ⟨(some 38), none, (.extract (.t 34) 0)⟩, ⟨(some 39), none, (.extract (.t 34) 1)⟩, ⟨(some 10), none, (.mv (.t 38))⟩, ⟨(some 11), none, (.mv (.t 39))⟩]) (.seq (.seq (.ops [⟨(some 40), none, (.mv (.t 10))⟩, ⟨(some 41), none, (.mv (.t 6))⟩, ⟨(some 42), none, (.bin .neq (.t 40) (.t 41))⟩, ⟨(some 43), none, (.mv (.t 42))⟩, ⟨(some 44), (some ⟨43, false⟩), (.mv (.t 11))⟩, ⟨(some 45), (some ⟨43, false⟩), (.mv (.t 7))⟩, ⟨(some 46), (some ⟨43, false⟩), (.bin .neq (.t 44) (.t 45))⟩, ⟨(some 47), none, (.pick (.t 43) (.c (.t (.bool true))) (.t 46))⟩]) (.cond (.t 47) (.seq (.ops [⟨(some 4), none, (.mv (.c (.t (.bool false))))⟩]) .ret) .skip)) (.seq (.seq (.ops [⟨(some 48), none, (.mv (.t 8))⟩, ⟨(some 49), none, (.mv (.t 0))⟩, ⟨(some 50), none, (.call (.c (.fn (.func 22) [])) [(.t 49)])⟩, ⟨(some 51), none, (.call (.c (.fn (.func 25) [])) [(.t 48), (.t 50)])⟩, ⟨(some 52), none, (.un .not (.t 51))⟩]) (.cond (.t 52) (.seq (.ops [⟨(some 4), none, (.mv (.c (.t (.bool false))))⟩]) .ret) .skip)) (.seq (.seq (.drawn [(.mk 0 false ⟨(some 53), none, (.load (some 7) (.t 9))⟩ []), (.mk 1 false ⟨(some 54), none, (.load (some 7) (.t 3))⟩ []), (.mk 2 true ⟨(some 55), none, (.call (.c (.fn (.func 23) [])) [(.t 54)])⟩ [⟨(some 53), none, (.load (some 7) (.t 9))⟩]), (.mk 3 false ⟨(some 56), none, (.call (.c (.fn (.func 26) [])) [(.t 53), (.t 55)])⟩ []), (.mk 4 false ⟨(some 57), none, (.un .not (.t 56))⟩ [])]) (.cond (.t 57) (.seq (.ops [⟨(some 4), none, (.mv (.c (.t (.bool false))))⟩]) .ret) .skip)) (.seq (.ops [⟨(some 4), none, (.mv (.c (.t (.bool true))))⟩]) .ret))))))))))))))
theorem k_laws_FnExactGateCheck : comp Tryd.prog 58 (Tryd.f4.body.getD .skip) = some c_laws_FnExactGateCheck := by kernel_rfl

theorem lawGateCheck (a0 : List GateShape) (a1 : GateObject) (h0 : T.is (.sl 2 shGateShape) (tGateShapeS a0)) (q0 : (tGateShapeS a0).size ≤ 1048576 → GateShape.OkS a0) (h1 : T.isL shGateObject a1.ts) (q1 : T.sizeL a1.ts ≤ 1048576 → a1.Ok) (σ : Store) (hg : ErrAt σ) : ACalls Tryd.prog 4 [.t (tGateShapeS a0), .agg a1.vs] σ fun r _ => r = .t (.bool true) := by
  refine acalls_of Tryd.func4 (by decide +kernel) (code := Tryd.f4.body.getD .skip) (n := 58) (c := c_laws_FnExactGateCheck) (rs := [(.tmp 4)]) rfl rfl k_laws_FnExactGateCheck (by kernel_rfl) (by simp) (fun hσ => ?_)
  try simp only [maxLen] at *
  have fin : ∀ {τ : Store}, retV σ.length (fun r _ => r = .t (.bool true)) (σ ++ τ) (some [.t (.bool true)]) := ret_same rfl hσ rfl rfl
  have fin0 : retV σ.length (fun r _ => r = .t (.bool true)) σ (some [.t (.bool true)]) := ret_same0 rfl rfl
  simp -implicitDefEqProofs only [c_laws_FnExactGateCheck, GateObject.vs, tGateShapeS, List.length_map, S0, S1, S2, S3, S4, S5, S6, S7, S8, S9, S10, S11, S12, S13, S14, S15, S16, S17, opv, opvs, eget, env0, setD, lenStr, lenSl, isNilP, isNilS, putAt, if_true, if_false, reduceCtorEq, Nat.reduceLeDiff, Nat.reduceEqDiff, Nat.reduceSub, Nat.reduceMul, Nat.reduceAdd]
  refine call_by (by rw [List.append_nil]; exact szGateShapeS (tGateShapeS a0) 1048576 _ h0 (by omega) (by omega)) ?_
  rintro r σ' ⟨⟨m1, rfl, hm1, hs1⟩, rfl⟩
  simp -implicitDefEqProofs only [checkV, ne_self, beq_self_eq_true, S0, S1, S2, S3, S4, S5, S6, S7, S8, S9, S10, S11, S12, S13, S14, S15, S16, S17, opv, opvs, eget, env0, setD, lenStr, lenSl, isNilP, isNilS, putAt, if_true, if_false, reduceCtorEq, Nat.reduceLeDiff, Nat.reduceEqDiff, Nat.reduceSub, Nat.reduceMul, Nat.reduceAdd]
  refine cond_split (fun h => ?_) (fun h => ?_)
  · simp -implicitDefEqProofs only [S0, S1, S2, S3, S4, S5, S6, S7, S8, S9, S10, S11, S12, S13, S14, S15, S16, S17, opv, opvs, eget, env0, setD, lenStr, lenSl, isNilP, isNilS, putAt, if_true, if_false, reduceCtorEq, Nat.reduceLeDiff, Nat.reduceEqDiff, Nat.reduceSub, Nat.reduceMul, Nat.reduceAdd]
    first | exact fin | exact fin0
  simp only [decide_eq_false_iff_not, Int.not_lt] at h
  replace hs1 := hs1 h
  simp -implicitDefEqProofs only [checkV, ne_self, beq_self_eq_true, S0, S1, S2, S3, S4, S5, S6, S7, S8, S9, S10, S11, S12, S13, S14, S15, S16, S17, opv, opvs, eget, env0, setD, lenStr, lenSl, isNilP, isNilS, putAt, if_true, if_false, reduceCtorEq, Nat.reduceLeDiff, Nat.reduceEqDiff, Nat.reduceSub, Nat.reduceMul, Nat.reduceAdd]
  refine call_by (by rw [List.append_nil]; exact szGateObject a1.ts m1 _ h1 (by omega) (by omega)) ?_
  rintro r σ' ⟨⟨m2, rfl, hm2, hs2⟩, rfl⟩
  simp -implicitDefEqProofs only [checkV, ne_self, beq_self_eq_true, S0, S1, S2, S3, S4, S5, S6, S7, S8, S9, S10, S11, S12, S13, S14, S15, S16, S17, opv, opvs, eget, env0, setD, lenStr, lenSl, isNilP, isNilS, putAt, if_true, if_false, reduceCtorEq, Nat.reduceLeDiff, Nat.reduceEqDiff, Nat.reduceSub, Nat.reduceMul, Nat.reduceAdd]
  refine cond_split (fun h => ?_) (fun h => ?_)
  · simp -implicitDefEqProofs only [S0, S1, S2, S3, S4, S5, S6, S7, S8, S9, S10, S11, S12, S13, S14, S15, S16, S17, opv, opvs, eget, env0, setD, lenStr, lenSl, isNilP, isNilS, putAt, if_true, if_false, reduceCtorEq, Nat.reduceLeDiff, Nat.reduceEqDiff, Nat.reduceSub, Nat.reduceMul, Nat.reduceAdd]
    first | exact fin | exact fin0
  simp only [decide_eq_false_iff_not, Int.not_lt] at h
  replace hs2 := hs2 h
  simp -implicitDefEqProofs only [checkV, ne_self, beq_self_eq_true, S0, S1, S2, S3, S4, S5, S6, S7, S8, S9, S10, S11, S12, S13, S14, S15, S16, S17, opv, opvs, eget, env0, setD, lenStr, lenSl, isNilP, isNilS, putAt, if_true, if_false, reduceCtorEq, Nat.reduceLeDiff, Nat.reduceEqDiff, Nat.reduceSub, Nat.reduceMul, Nat.reduceAdd]
  have o0 := q0 (by omega)
  have o1 := q1 (by omega)
  refine call_by (by rw [List.append_nil]; exact toGateShapeS (tGateShapeS a0) _ h0 (by omega)) ?_
  rintro u1 σ' ⟨τ1, j1, rfl, p1, w1⟩
  clear w1
  have e1 := p1.one
  simp -implicitDefEqProofs only [checkV, one_cells e1, e1, ne_self, beq_self_eq_true, S0, S1, S2, S3, S4, S5, S6, S7, S8, S9, S10, S11, S12, S13, S14, S15, S16, S17, opv, opvs, eget, env0, setD, lenStr, lenSl, isNilP, isNilS, putAt, if_true, if_false, reduceCtorEq, Nat.reduceLeDiff, Nat.reduceEqDiff, Nat.reduceSub, Nat.reduceMul, Nat.reduceAdd]
  refine call_by (by rw [List.append_nil]; exact toGateObject a1.ts _ h1 (by omega)) ?_
  rintro r σ' ⟨u2, τ2, j2, rfl, rfl, p2, w2⟩
  clear w2
  simp -implicitDefEqProofs only [checkV, one_cells e1, e1, ne_self, beq_self_eq_true, S0, S1, S2, S3, S4, S5, S6, S7, S8, S9, S10, S11, S12, S13, S14, S15, S16, S17, opv, opvs, eget, env0, setD, lenStr, lenSl, isNilP, isNilS, putAt, if_true, if_false, reduceCtorEq, Nat.reduceLeDiff, Nat.reduceEqDiff, Nat.reduceSub, Nat.reduceMul, Nat.reduceAdd]
  refine call_bor (fun σ => spec_GateCheck a0 o0 a1 o1 σ) rfl ⟨_, _, rfl, sees_lst p1 rfl (by simp), _, _, rfl, sees_agg p2 rfl (by simp), rfl⟩ ?_
  simp -implicitDefEqProofs only [checkV, one_cells e1, e1, ne_self, beq_self_eq_true, S0, S1, S2, S3, S4, S5, S6, S7, S8, S9, S10, S11, S12, S13, S14, S15, S16, S17, opv, opvs, eget, env0, setD, lenStr, lenSl, isNilP, isNilS, putAt, if_true, if_false, reduceCtorEq, Nat.reduceLeDiff, Nat.reduceEqDiff, Nat.reduceSub, Nat.reduceMul, Nat.reduceAdd]
  refine call_by (by rw [List.append_nil]; exact toGateShapeS (tGateShapeS a0) _ h0 (by omega)) ?_
  rintro u3 σ' ⟨τ3, j3, rfl, p3, w3⟩
  clear w3
  have e3 := p3.one
  simp -implicitDefEqProofs only [checkV, one_cells e1, e1, one_cells e3, e3, ne_self, beq_self_eq_true, S0, S1, S2, S3, S4, S5, S6, S7, S8, S9, S10, S11, S12, S13, S14, S15, S16, S17, opv, opvs, eget, env0, setD, lenStr, lenSl, isNilP, isNilS, putAt, if_true, if_false, reduceCtorEq, Nat.reduceLeDiff, Nat.reduceEqDiff, Nat.reduceSub, Nat.reduceMul, Nat.reduceAdd]
  refine call_by (by rw [List.append_nil]; exact toGateObject a1.ts _ h1 (by omega)) ?_
  rintro r σ' ⟨u4, τ4, j4, rfl, rfl, p4, w4⟩
  clear w4
  obtain ⟨v4x0, v4x1, v4x2, v4x3, v4x4, v4x5, v4x6, rfl⟩ : ∃ v4x0 v4x1 v4x2 v4x3 v4x4 v4x5 v4x6, u4 = [v4x0, v4x1, v4x2, v4x3, v4x4, v4x5, v4x6] := list7y p4.len
  have e4 := p4.ones
  simp only [List.all_cons, List.all_nil, Bool.and_eq_true, and_true] at e4
  obtain ⟨e4x0, e4x1, e4x2, e4x3, e4x4, e4x5, e4x6⟩ := e4
  simp -implicitDefEqProofs only [checkV, one_cells e1, e1, one_cells e3, e3, e4x0, e4x1, e4x2, e4x3, e4x4, e4x5, e4x6, ne_self, beq_self_eq_true, S0, S1, S2, S3, S4, S5, S6, S7, S8, S9, S10, S11, S12, S13, S14, S15, S16, S17, opv, opvs, eget, env0, setD, lenStr, lenSl, isNilP, isNilS, putAt, if_true, if_false, reduceCtorEq, Nat.reduceLeDiff, Nat.reduceEqDiff, Nat.reduceSub, Nat.reduceMul, Nat.reduceAdd]
  refine call_borG (C := ErrAt) (fun σ h => h.husk) (by repeat' (first | exact hg | refine VarAt.app ?_ _)) (fun σ h => impl_GateCheck a0 o0 a1 o1 σ h) rfl ⟨_, _, rfl, sees_lst p3 rfl (by simp), _, _, rfl, sees_agg p4 rfl (by simp), rfl⟩ ?_
  simp -implicitDefEqProofs only [checkV, one_cells e1, e1, one_cells e3, e3, e4x0, e4x1, e4x2, e4x3, e4x4, e4x5, e4x6, ne_self, beq_self_eq_true, S0, S1, S2, S3, S4, S5, S6, S7, S8, S9, S10, S11, S12, S13, S14, S15, S16, S17, opv, opvs, eget, env0, setD, lenStr, lenSl, isNilP, isNilS, putAt, if_true, if_false, reduceCtorEq, Nat.reduceLeDiff, Nat.reduceEqDiff, Nat.reduceSub, Nat.reduceMul, Nat.reduceAdd]
  refine call_by (by rw [List.append_nil]; exact toGateShapeS (tGateShapeS a0) _ h0 (by omega)) ?_
  rintro u5 σ' ⟨τ5, j5, rfl, p5, w5⟩
  clear w5
  have e5 := p5.one
  simp -implicitDefEqProofs only [checkV, one_cells e1, e1, one_cells e3, e3, e4x0, e4x1, e4x2, e4x3, e4x4, e4x5, e4x6, one_cells e5, e5, ne_self, beq_self_eq_true, S0, S1, S2, S3, S4, S5, S6, S7, S8, S9, S10, S11, S12, S13, S14, S15, S16, S17, opv, opvs, eget, env0, setD, lenStr, lenSl, isNilP, isNilS, putAt, if_true, if_false, reduceCtorEq, Nat.reduceLeDiff, Nat.reduceEqDiff, Nat.reduceSub, Nat.reduceMul, Nat.reduceAdd]
  refine call_bor (fun σ => eqGateShapeS (tGateShapeS a0) σ h0 (by omega)) rfl ⟨_, _, rfl, sees_lst p3 rfl (by simp), _, _, rfl, sees_lst p5 rfl (by simp), rfl⟩ ?_
  simp -implicitDefEqProofs only [checkV, one_cells e1, e1, one_cells e3, e3, e4x0, e4x1, e4x2, e4x3, e4x4, e4x5, e4x6, one_cells e5, e5, ne_self, beq_self_eq_true, S0, S1, S2, S3, S4, S5, S6, S7, S8, S9, S10, S11, S12, S13, S14, S15, S16, S17, opv, opvs, eget, env0, setD, lenStr, lenSl, isNilP, isNilS, putAt, if_true, if_false, reduceCtorEq, Nat.reduceLeDiff, Nat.reduceEqDiff, Nat.reduceSub, Nat.reduceMul, Nat.reduceAdd]
  refine call_by (by rw [List.append_nil]; exact toGateObject a1.ts _ h1 (by omega)) ?_
  rintro r σ' ⟨u6, τ6, j6, rfl, rfl, p6, w6⟩
  clear w6
  simp -implicitDefEqProofs only [checkV, one_cells e1, e1, one_cells e3, e3, e4x0, e4x1, e4x2, e4x3, e4x4, e4x5, e4x6, one_cells e5, e5, ne_self, beq_self_eq_true, S0, S1, S2, S3, S4, S5, S6, S7, S8, S9, S10, S11, S12, S13, S14, S15, S16, S17, opv, opvs, eget, env0, setD, lenStr, lenSl, isNilP, isNilS, putAt, if_true, if_false, reduceCtorEq, Nat.reduceLeDiff, Nat.reduceEqDiff, Nat.reduceSub, Nat.reduceMul, Nat.reduceAdd]
  refine call_bor (fun σ => eqGateObject a1.ts σ h1 (by omega)) rfl ⟨_, _, rfl, sees_agg p4 rfl (by simp), _, _, rfl, sees_agg p6 rfl (by simp), rfl⟩ ?_
  simp -implicitDefEqProofs only [checkV, one_cells e1, e1, one_cells e3, e3, e4x0, e4x1, e4x2, e4x3, e4x4, e4x5, e4x6, one_cells e5, e5, ne_self, beq_self_eq_true, S0, S1, S2, S3, S4, S5, S6, S7, S8, S9, S10, S11, S12, S13, S14, S15, S16, S17, opv, opvs, eget, env0, setD, lenStr, lenSl, isNilP, isNilS, putAt, if_true, if_false, reduceCtorEq, Nat.reduceLeDiff, Nat.reduceEqDiff, Nat.reduceSub, Nat.reduceMul, Nat.reduceAdd]
  first | exact fin | exact fin0
end Go.Proofs.YtcjchimenfadkaaDoor.LGateCheck
