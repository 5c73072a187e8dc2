/- FnExactGateAllows: what the law's code does: it returns true. Conditions: none. -/
import Derived.Test.YtgdmgoidfglobaaGateAllows
set_option linter.unusedSimpArgs false
set_option linter.unusedVariables false
set_option linter.defProp false
open Go Go.Ab
set_option maxHeartbeats 4000000
namespace Go.Proofs.Ytgdmgoidfglobaa.LGateAllows
open Go.Proofs.Ytgdmgoidfglobaa.W
theorem list4y {l : List V} (h : l.length = 4) : ∃ u0 u1 u2 u3, l = [u0, u1, u2, u3] := by
  match l, h with
  | [u0, u1, u2, u3], _ => exact ⟨u0, u1, u2, u3, rfl⟩
def c_laws_FnExactGateAllows : C := (.seq (.ops [⟨(some 4), none, (.box (.t 1))⟩, ⟨(some 5), none, (.box (.t 2))⟩, ⟨(some 6), none, (.mv (.c (.t (.bool false))))⟩]) (.seq (.ops [⟨(some 7), none, (.mv (.c (.t (.int .i64 1048576))))⟩]) (.seq (.ops [⟨(some 12), none, (.mv (.t 0))⟩, ⟨(some 13), none, (.mv (.t 7))⟩, ⟨(some 14), none, (.call (.c (.fn (.func 13) [])) [(.t 12), (.t 13)])⟩, ⟨(some 7), none, (.mv (.t 14))⟩]) (.seq (.seq (.ops [⟨(some 15), none, (.mv (.t 7))⟩, ⟨(some 16), none, (.bin .lss (.t 15) (.c (.t (.int .i64 0))))⟩]) (.cond (.t 16) (.seq (.ops [⟨(some 6), none, (.mv (.c (.t (.bool true))))⟩]) .ret) .skip)) (.seq (.ops [⟨(some 17), none, (.load (some 4) (.t 4))⟩, ⟨(some 18), none, (.mv (.t 7))⟩, ⟨(some 19), none, (.call (.c (.fn (.func 33) [])) [(.t 17), (.t 18)])⟩, ⟨(some 7), none, (.mv (.t 19))⟩]) (.seq (.seq (.ops [⟨(some 20), none, (.mv (.t 7))⟩, ⟨(some 21), none, (.bin .lss (.t 20) (.c (.t (.int .i64 0))))⟩]) (.cond (.t 21) (.seq (.ops [⟨(some 6), none, (.mv (.c (.t (.bool true))))⟩]) .ret) .skip)) (.seq (.ops [⟨(some 22), none, (.load (some 4) (.t 5))⟩, ⟨(some 23), none, (.mv (.t 7))⟩, ⟨(some 24), none, (.call (.c (.fn (.func 34) [])) [(.t 22), (.t 23)])⟩, ⟨(some 7), none, (.mv (.t 24))⟩]) (.seq (.seq (.ops [⟨(some 25), none, (.mv (.t 7))⟩, ⟨(some 26), none, (.bin .lss (.t 25) (.c (.t (.int .i64 0))))⟩]) (.cond (.t 26) (.seq (.ops [⟨(some 6), none, (.mv (.c (.t (.bool true))))⟩]) .ret) .skip)) (.seq (.drawn [(.mk 0 false ⟨(some 27), none, (.mv (.t 0))⟩ []), (.mk 2 false ⟨(some 29), none, (.load (some 4) (.t 4))⟩ []), (.mk 4 false ⟨(some 31), none, (.load (some 4) (.t 5))⟩ []), (.mk 1 true ⟨(some 28), none, (.call (.c (.fn (.func 15) [])) [(.t 27)])⟩ [⟨(some 29), none, (.load (some 4) (.t 4))⟩, ⟨(some 31), none, (.load (some 4) (.t 5))⟩]), (.mk 3 true ⟨(some 30), none, (.call (.c (.fn (.func 36) [])) [(.t 29)])⟩ [⟨(some 31), none, (.load (some 4) (.t 5))⟩]), (.mk 5 false ⟨(some 32), none, (.call (.c (.fn (.func 37) [])) [(.t 31)])⟩ []), (.mk 6 false ⟨(some 33), none, (.call (.c (.fn (.func 35) [])) [(.t 28), (.t 30), (.t 32)])⟩ []), (.mk 7 false ⟨(some 8), none, (.mv (.t 33))⟩ [])]) (.seq (.ops [⟨(some 34), none, (.mv (.t 0))⟩, ⟨(some 35), none, (.call (.c (.fn (.func 15) [])) [(.t 34)])⟩, ⟨(some 9), none, (.mv (.t 35))⟩]) (.seq (.ops [⟨(some 36), none, (.load (some 4) (.t 4))⟩, ⟨(some 37), none, (.call (.c (.fn (.func 36) [])) [(.t 36)])⟩, ⟨(some 10), none, (.new [.nils, (.t (.str [])), (.t (.str [])), (.t (.str []))])⟩, ⟨none, none, (.store 4 (.t 10) (.t 37))⟩]) (.seq (.drawn [(.mk 0 false ⟨(some 38), none, (.mv (.t 9))⟩ []), (.mk 1 false ⟨(some 39), none, (.load (some 4) (.t 10))⟩ []), (.mk 2 false ⟨(some 40), none, (.load (some 4) (.t 5))⟩ []), (.mk 3 true ⟨(some 41), none, (.call (.c (.fn (.func 37) [])) [(.t 40)])⟩ [⟨(some 39), none, (.load (some 4) (.t 10))⟩]), (.mk 4 false ⟨(some 42), none, (.call (.c (.fn (.func 38) [])) [(.t 38), (.t 39), (.t 41)])⟩ []), (.mk 5 false ⟨(some 11), none, (.mv (.t 42))⟩ [])]) (.seq (.seq (.ops [⟨(some 43), none, (.mv (.t 11))⟩, ⟨(some 44), none, (.mv (.t 8))⟩, ⟨(some 45), none, (.eqB true (.t 43) (.t 44))⟩]) (.cond (.t 45) (.seq (.ops [⟨(some 6), none, (.mv (.c (.t (.bool false))))⟩]) .ret) .skip)) (.seq (.seq (.ops [⟨(some 46), none, (.mv (.t 9))⟩, ⟨(some 47), none, (.mv (.t 0))⟩, ⟨(some 48), none, (.call (.c (.fn (.func 15) [])) [(.t 47)])⟩, ⟨(some 49), none, (.call (.c (.fn (.func 17) [])) [(.t 46), (.t 48)])⟩, ⟨(some 50), none, (.un .not (.t 49))⟩]) (.cond (.t 50) (.seq (.ops [⟨(some 6), none, (.mv (.c (.t (.bool false))))⟩]) .ret) .skip)) (.seq (.seq (.drawn [(.mk 0 false ⟨(some 51), none, (.load (some 4) (.t 10))⟩ []), (.mk 1 false ⟨(some 52), none, (.load (some 4) (.t 4))⟩ []), (.mk 2 true ⟨(some 53), none, (.call (.c (.fn (.func 36) [])) [(.t 52)])⟩ [⟨(some 51), none, (.load (some 4) (.t 10))⟩]), (.mk 3 false ⟨(some 54), none, (.call (.c (.fn (.func 39) [])) [(.t 51), (.t 53)])⟩ []), (.mk 4 false ⟨(some 55), none, (.un .not (.t 54))⟩ [])]) (.cond (.t 55) (.seq (.ops [⟨(some 6), none, (.mv (.c (.t (.bool false))))⟩]) .ret) .skip)) (.seq (.ops [⟨(some 6), none, (.mv (.c (.t (.bool true))))⟩]) .ret))))))))))))))))
theorem k_laws_FnExactGateAllows : comp Try.prog 56 (Try.f7.body.getD .skip) = some c_laws_FnExactGateAllows := by kernel_rfl

theorem lawGateAllows (a0 : List GateTeam) (a1 : GateRule) (a2 : GateAct) (h0 : T.is (.sl 2 shGateTeam) (tGateTeamS a0)) (q0 : (tGateTeamS a0).size ≤ 1048576 → GateTeam.OkS a0) (h1 : T.isL shGateRule a1.ts) (q1 : T.sizeL a1.ts ≤ 1048576 → a1.Ok) (h2 : T.isL shGateAct a2.ts) (q2 : T.sizeL a2.ts ≤ 1048576 → a2.Ok) (σ : Store) : ACalls Try.prog 7 [.t (tGateTeamS a0), .agg a1.vs, .agg a2.vs] σ fun r _ => r = .t (.bool true) := by
  refine acalls_of Try.func7 (by decide +kernel) (code := Try.f7.body.getD .skip) (n := 56) (c := c_laws_FnExactGateAllows) (rs := [(.tmp 6)]) rfl rfl k_laws_FnExactGateAllows (by kernel_rfl) (by simp) (fun hσ => ?_)
  try simp only [maxLen] at *
  have fin : ∀ {τ : Store}, retV σ.length (fun r _ => r = .t (.bool true)) (σ ++ τ) (some [.t (.bool true)]) := ret_same rfl hσ rfl rfl
  have fin0 : retV σ.length (fun r _ => r = .t (.bool true)) σ (some [.t (.bool true)]) := ret_same0 rfl rfl
  simp -implicitDefEqProofs only [c_laws_FnExactGateAllows, GateAct.vs, GateRule.vs, tGateTeamS, List.length_map, S0, S1, S2, S3, S4, S5, S6, S7, S8, S9, S10, S11, S12, S13, S14, S15, S16, S17, opv, opvs, eget, env0, setD, lenStr, lenSl, isNilP, isNilS, putAt, if_true, if_false, reduceCtorEq, Nat.reduceLeDiff, Nat.reduceEqDiff, Nat.reduceSub, Nat.reduceMul, Nat.reduceAdd]
  refine call_by (by rw [List.append_nil]; exact szGateTeamS (tGateTeamS a0) 1048576 _ h0 (by omega) (by omega)) ?_
  rintro r σ' ⟨⟨m1, rfl, hm1, hs1⟩, rfl⟩
  simp -implicitDefEqProofs only [ne_self, beq_self_eq_true, S0, S1, S2, S3, S4, S5, S6, S7, S8, S9, S10, S11, S12, S13, S14, S15, S16, S17, opv, opvs, eget, env0, setD, lenStr, lenSl, isNilP, isNilS, putAt, if_true, if_false, reduceCtorEq, Nat.reduceLeDiff, Nat.reduceEqDiff, Nat.reduceSub, Nat.reduceMul, Nat.reduceAdd]
  refine cond_split (fun h => ?_) (fun h => ?_)
  · simp -implicitDefEqProofs only [S0, S1, S2, S3, S4, S5, S6, S7, S8, S9, S10, S11, S12, S13, S14, S15, S16, S17, opv, opvs, eget, env0, setD, lenStr, lenSl, isNilP, isNilS, putAt, if_true, if_false, reduceCtorEq, Nat.reduceLeDiff, Nat.reduceEqDiff, Nat.reduceSub, Nat.reduceMul, Nat.reduceAdd]
    first | exact fin | exact fin0
  simp only [decide_eq_false_iff_not, Int.not_lt] at h
  replace hs1 := hs1 h
  simp -implicitDefEqProofs only [ne_self, beq_self_eq_true, S0, S1, S2, S3, S4, S5, S6, S7, S8, S9, S10, S11, S12, S13, S14, S15, S16, S17, opv, opvs, eget, env0, setD, lenStr, lenSl, isNilP, isNilS, putAt, if_true, if_false, reduceCtorEq, Nat.reduceLeDiff, Nat.reduceEqDiff, Nat.reduceSub, Nat.reduceMul, Nat.reduceAdd]
  refine call_by (by rw [List.append_nil]; exact szGateRule a1.ts m1 _ h1 (by omega) (by omega)) ?_
  rintro r σ' ⟨⟨m2, rfl, hm2, hs2⟩, rfl⟩
  simp -implicitDefEqProofs only [ne_self, beq_self_eq_true, S0, S1, S2, S3, S4, S5, S6, S7, S8, S9, S10, S11, S12, S13, S14, S15, S16, S17, opv, opvs, eget, env0, setD, lenStr, lenSl, isNilP, isNilS, putAt, if_true, if_false, reduceCtorEq, Nat.reduceLeDiff, Nat.reduceEqDiff, Nat.reduceSub, Nat.reduceMul, Nat.reduceAdd]
  refine cond_split (fun h => ?_) (fun h => ?_)
  · simp -implicitDefEqProofs only [S0, S1, S2, S3, S4, S5, S6, S7, S8, S9, S10, S11, S12, S13, S14, S15, S16, S17, opv, opvs, eget, env0, setD, lenStr, lenSl, isNilP, isNilS, putAt, if_true, if_false, reduceCtorEq, Nat.reduceLeDiff, Nat.reduceEqDiff, Nat.reduceSub, Nat.reduceMul, Nat.reduceAdd]
    first | exact fin | exact fin0
  simp only [decide_eq_false_iff_not, Int.not_lt] at h
  replace hs2 := hs2 h
  simp -implicitDefEqProofs only [ne_self, beq_self_eq_true, S0, S1, S2, S3, S4, S5, S6, S7, S8, S9, S10, S11, S12, S13, S14, S15, S16, S17, opv, opvs, eget, env0, setD, lenStr, lenSl, isNilP, isNilS, putAt, if_true, if_false, reduceCtorEq, Nat.reduceLeDiff, Nat.reduceEqDiff, Nat.reduceSub, Nat.reduceMul, Nat.reduceAdd]
  refine call_by (by rw [List.append_nil]; exact szGateAct a2.ts m2 _ h2 (by omega) (by omega)) ?_
  rintro r σ' ⟨⟨m3, rfl, hm3, hs3⟩, rfl⟩
  simp -implicitDefEqProofs only [ne_self, beq_self_eq_true, S0, S1, S2, S3, S4, S5, S6, S7, S8, S9, S10, S11, S12, S13, S14, S15, S16, S17, opv, opvs, eget, env0, setD, lenStr, lenSl, isNilP, isNilS, putAt, if_true, if_false, reduceCtorEq, Nat.reduceLeDiff, Nat.reduceEqDiff, Nat.reduceSub, Nat.reduceMul, Nat.reduceAdd]
  refine cond_split (fun h => ?_) (fun h => ?_)
  · simp -implicitDefEqProofs only [S0, S1, S2, S3, S4, S5, S6, S7, S8, S9, S10, S11, S12, S13, S14, S15, S16, S17, opv, opvs, eget, env0, setD, lenStr, lenSl, isNilP, isNilS, putAt, if_true, if_false, reduceCtorEq, Nat.reduceLeDiff, Nat.reduceEqDiff, Nat.reduceSub, Nat.reduceMul, Nat.reduceAdd]
    first | exact fin | exact fin0
  simp only [decide_eq_false_iff_not, Int.not_lt] at h
  replace hs3 := hs3 h
  simp -implicitDefEqProofs only [ne_self, beq_self_eq_true, S0, S1, S2, S3, S4, S5, S6, S7, S8, S9, S10, S11, S12, S13, S14, S15, S16, S17, opv, opvs, eget, env0, setD, lenStr, lenSl, isNilP, isNilS, putAt, if_true, if_false, reduceCtorEq, Nat.reduceLeDiff, Nat.reduceEqDiff, Nat.reduceSub, Nat.reduceMul, Nat.reduceAdd]
  have o0 := q0 (by omega)
  have o1 := q1 (by omega)
  have o2 := q2 (by omega)
  refine call_by (by rw [List.append_nil]; exact toGateTeamS (tGateTeamS a0) _ h0 (by omega)) ?_
  rintro u1 σ' ⟨τ1, j1, rfl, p1, w1⟩
  clear w1
  have e1 := p1.one
  simp -implicitDefEqProofs only [one_cells e1, e1, ne_self, beq_self_eq_true, S0, S1, S2, S3, S4, S5, S6, S7, S8, S9, S10, S11, S12, S13, S14, S15, S16, S17, opv, opvs, eget, env0, setD, lenStr, lenSl, isNilP, isNilS, putAt, if_true, if_false, reduceCtorEq, Nat.reduceLeDiff, Nat.reduceEqDiff, Nat.reduceSub, Nat.reduceMul, Nat.reduceAdd]
  refine call_by (by rw [List.append_nil]; exact toGateRule a1.ts _ h1 (by omega)) ?_
  rintro r σ' ⟨u2, τ2, j2, rfl, rfl, p2, w2⟩
  clear w2
  simp -implicitDefEqProofs only [one_cells e1, e1, ne_self, beq_self_eq_true, S0, S1, S2, S3, S4, S5, S6, S7, S8, S9, S10, S11, S12, S13, S14, S15, S16, S17, opv, opvs, eget, env0, setD, lenStr, lenSl, isNilP, isNilS, putAt, if_true, if_false, reduceCtorEq, Nat.reduceLeDiff, Nat.reduceEqDiff, Nat.reduceSub, Nat.reduceMul, Nat.reduceAdd]
  refine call_by (by rw [List.append_nil]; exact toGateAct a2.ts _ h2 (by omega)) ?_
  rintro r σ' ⟨u3, τ3, j3, rfl, rfl, p3, w3⟩
  clear w3
  simp -implicitDefEqProofs only [one_cells e1, e1, ne_self, beq_self_eq_true, S0, S1, S2, S3, S4, S5, S6, S7, S8, S9, S10, S11, S12, S13, S14, S15, S16, S17, opv, opvs, eget, env0, setD, lenStr, lenSl, isNilP, isNilS, putAt, if_true, if_false, reduceCtorEq, Nat.reduceLeDiff, Nat.reduceEqDiff, Nat.reduceSub, Nat.reduceMul, Nat.reduceAdd]
  refine call_bor (fun σ => spec_GateAllows a0 o0 a1 o1 a2 o2 σ) rfl ⟨_, _, rfl, sees_lst p1 rfl (by simp), _, _, rfl, sees_agg p2 rfl (by simp), _, _, rfl, sees_agg p3 rfl (by simp), rfl⟩ ?_
  simp -implicitDefEqProofs only [one_cells e1, e1, ne_self, beq_self_eq_true, S0, S1, S2, S3, S4, S5, S6, S7, S8, S9, S10, S11, S12, S13, S14, S15, S16, S17, opv, opvs, eget, env0, setD, lenStr, lenSl, isNilP, isNilS, putAt, if_true, if_false, reduceCtorEq, Nat.reduceLeDiff, Nat.reduceEqDiff, Nat.reduceSub, Nat.reduceMul, Nat.reduceAdd]
  refine call_by (by rw [List.append_nil]; exact toGateTeamS (tGateTeamS a0) _ h0 (by omega)) ?_
  rintro u4 σ' ⟨τ4, j4, rfl, p4, w4⟩
  clear w4
  have e4 := p4.one
  simp -implicitDefEqProofs only [one_cells e1, e1, one_cells e4, e4, ne_self, beq_self_eq_true, S0, S1, S2, S3, S4, S5, S6, S7, S8, S9, S10, S11, S12, S13, S14, S15, S16, S17, opv, opvs, eget, env0, setD, lenStr, lenSl, isNilP, isNilS, putAt, if_true, if_false, reduceCtorEq, Nat.reduceLeDiff, Nat.reduceEqDiff, Nat.reduceSub, Nat.reduceMul, Nat.reduceAdd]
  refine call_by (by rw [List.append_nil]; exact toGateRule a1.ts _ h1 (by omega)) ?_
  rintro r σ' ⟨u5, τ5, j5, rfl, rfl, p5, w5⟩
  clear w5
  obtain ⟨v5x0, v5x1, v5x2, v5x3, rfl⟩ : ∃ v5x0 v5x1 v5x2 v5x3, u5 = [v5x0, v5x1, v5x2, v5x3] := list4y p5.len
  have e5 := p5.ones
  simp only [List.all_cons, List.all_nil, Bool.and_eq_true, and_true] at e5
  obtain ⟨e5x0, e5x1, e5x2, e5x3⟩ := e5
  simp -implicitDefEqProofs only [one_cells e1, e1, one_cells e4, e4, e5x0, e5x1, e5x2, e5x3, ne_self, beq_self_eq_true, S0, S1, S2, S3, S4, S5, S6, S7, S8, S9, S10, S11, S12, S13, S14, S15, S16, S17, opv, opvs, eget, env0, setD, lenStr, lenSl, isNilP, isNilS, putAt, if_true, if_false, reduceCtorEq, Nat.reduceLeDiff, Nat.reduceEqDiff, Nat.reduceSub, Nat.reduceMul, Nat.reduceAdd]
  refine call_by (by rw [List.append_nil]; exact toGateAct a2.ts _ h2 (by omega)) ?_
  rintro r σ' ⟨u6, τ6, j6, rfl, rfl, p6, w6⟩
  clear w6
  simp -implicitDefEqProofs only [one_cells e1, e1, one_cells e4, e4, e5x0, e5x1, e5x2, e5x3, ne_self, beq_self_eq_true, S0, S1, S2, S3, S4, S5, S6, S7, S8, S9, S10, S11, S12, S13, S14, S15, S16, S17, opv, opvs, eget, env0, setD, lenStr, lenSl, isNilP, isNilS, putAt, if_true, if_false, reduceCtorEq, Nat.reduceLeDiff, Nat.reduceEqDiff, Nat.reduceSub, Nat.reduceMul, Nat.reduceAdd]
  refine call_bor (fun σ => impl_GateAllows a0 o0 a1 o1 a2 o2 σ) rfl ⟨_, _, rfl, sees_lst p4 rfl (by simp), _, _, rfl, sees_agg p5 rfl (by simp), _, _, rfl, sees_agg p6 rfl (by simp), rfl⟩ ?_
  simp -implicitDefEqProofs only [one_cells e1, e1, one_cells e4, e4, e5x0, e5x1, e5x2, e5x3, ne_self, beq_self_eq_true, S0, S1, S2, S3, S4, S5, S6, S7, S8, S9, S10, S11, S12, S13, S14, S15, S16, S17, opv, opvs, eget, env0, setD, lenStr, lenSl, isNilP, isNilS, putAt, if_true, if_false, reduceCtorEq, Nat.reduceLeDiff, Nat.reduceEqDiff, Nat.reduceSub, Nat.reduceMul, Nat.reduceAdd]
  refine call_by (by rw [List.append_nil]; exact toGateTeamS (tGateTeamS a0) _ h0 (by omega)) ?_
  rintro u7 σ' ⟨τ7, j7, rfl, p7, w7⟩
  clear w7
  have e7 := p7.one
  simp -implicitDefEqProofs only [one_cells e1, e1, one_cells e4, e4, e5x0, e5x1, e5x2, e5x3, one_cells e7, e7, ne_self, beq_self_eq_true, S0, S1, S2, S3, S4, S5, S6, S7, S8, S9, S10, S11, S12, S13, S14, S15, S16, S17, opv, opvs, eget, env0, setD, lenStr, lenSl, isNilP, isNilS, putAt, if_true, if_false, reduceCtorEq, Nat.reduceLeDiff, Nat.reduceEqDiff, Nat.reduceSub, Nat.reduceMul, Nat.reduceAdd]
  refine call_bor (fun σ => eqGateTeamS (tGateTeamS a0) σ h0 (by omega)) rfl ⟨_, _, rfl, sees_lst p4 rfl (by simp), _, _, rfl, sees_lst p7 rfl (by simp), rfl⟩ ?_
  simp -implicitDefEqProofs only [one_cells e1, e1, one_cells e4, e4, e5x0, e5x1, e5x2, e5x3, one_cells e7, e7, ne_self, beq_self_eq_true, S0, S1, S2, S3, S4, S5, S6, S7, S8, S9, S10, S11, S12, S13, S14, S15, S16, S17, opv, opvs, eget, env0, setD, lenStr, lenSl, isNilP, isNilS, putAt, if_true, if_false, reduceCtorEq, Nat.reduceLeDiff, Nat.reduceEqDiff, Nat.reduceSub, Nat.reduceMul, Nat.reduceAdd]
  refine call_by (by rw [List.append_nil]; exact toGateRule a1.ts _ h1 (by omega)) ?_
  rintro r σ' ⟨u8, τ8, j8, rfl, rfl, p8, w8⟩
  clear w8
  simp -implicitDefEqProofs only [one_cells e1, e1, one_cells e4, e4, e5x0, e5x1, e5x2, e5x3, one_cells e7, e7, ne_self, beq_self_eq_true, S0, S1, S2, S3, S4, S5, S6, S7, S8, S9, S10, S11, S12, S13, S14, S15, S16, S17, opv, opvs, eget, env0, setD, lenStr, lenSl, isNilP, isNilS, putAt, if_true, if_false, reduceCtorEq, Nat.reduceLeDiff, Nat.reduceEqDiff, Nat.reduceSub, Nat.reduceMul, Nat.reduceAdd]
  refine call_bor (fun σ => eqGateRule a1.ts σ h1 (by omega)) rfl ⟨_, _, rfl, sees_agg p5 rfl (by simp), _, _, rfl, sees_agg p8 rfl (by simp), rfl⟩ ?_
  simp -implicitDefEqProofs only [one_cells e1, e1, one_cells e4, e4, e5x0, e5x1, e5x2, e5x3, one_cells e7, e7, ne_self, beq_self_eq_true, S0, S1, S2, S3, S4, S5, S6, S7, S8, S9, S10, S11, S12, S13, S14, S15, S16, S17, opv, opvs, eget, env0, setD, lenStr, lenSl, isNilP, isNilS, putAt, if_true, if_false, reduceCtorEq, Nat.reduceLeDiff, Nat.reduceEqDiff, Nat.reduceSub, Nat.reduceMul, Nat.reduceAdd]
  first | exact fin | exact fin0
end Go.Proofs.Ytgdmgoidfglobaa.LGateAllows
