/- FnExactGateCovers: what the law's code does: it returns true. Conditions: none. -/
import Derived.Test.YtgdmgoidfglobaaCovers
set_option linter.unusedSimpArgs false
set_option linter.unusedVariables false
set_option linter.defProp false
open Go Go.Ab
set_option maxHeartbeats 4000000
namespace Go.Proofs.Ytgdmgoidfglobaa.LGateCovers
open Go.Proofs.Ytgdmgoidfglobaa.W
theorem list4y {l : List V} (h : l.length = 4) : ∃ u0 u1 u2 u3, l = [u0, u1, u2, u3] := by
  match l, h with
  | [u0, u1, u2, u3], _ => exact ⟨u0, u1, u2, u3, rfl⟩
def c_laws_FnExactGateCovers : C := (.seq (.ops [⟨(some 5), none, (.box (.t 2))⟩, ⟨(some 6), none, (.mv (.c (.t (.bool false))))⟩]) (.seq (.ops [⟨(some 7), none, (.mv (.c (.t (.int .i64 1048576))))⟩]) (.seq (.ops [⟨(some 13), none, (.mv (.t 0))⟩, ⟨(some 14), none, (.mv (.t 7))⟩, ⟨(some 15), none, (.call (.c (.fn (.func 13) [])) [(.t 13), (.t 14)])⟩, ⟨(some 7), none, (.mv (.t 15))⟩]) (.seq (.seq (.ops [⟨(some 16), none, (.mv (.t 7))⟩, ⟨(some 17), none, (.bin .lss (.t 16) (.c (.t (.int .i64 0))))⟩]) (.cond (.t 17) (.seq (.ops [⟨(some 6), none, (.mv (.c (.t (.bool true))))⟩]) .ret) .skip)) (.seq (.ops [⟨(some 18), none, (.mv (.t 1))⟩, ⟨(some 19), none, (.mv (.t 7))⟩, ⟨(some 20), none, (.call (.c (.fn (.func 40) [])) [(.t 18), (.t 19)])⟩, ⟨(some 7), none, (.mv (.t 20))⟩]) (.seq (.seq (.ops [⟨(some 21), none, (.mv (.t 7))⟩, ⟨(some 22), none, (.bin .lss (.t 21) (.c (.t (.int .i64 0))))⟩]) (.cond (.t 22) (.seq (.ops [⟨(some 6), none, (.mv (.c (.t (.bool true))))⟩]) .ret) .skip)) (.seq (.ops [⟨(some 23), none, (.load (some 4) (.t 5))⟩, ⟨(some 24), none, (.mv (.t 7))⟩, ⟨(some 25), none, (.call (.c (.fn (.func 33) [])) [(.t 23), (.t 24)])⟩, ⟨(some 7), none, (.mv (.t 25))⟩]) (.seq (.seq (.ops [⟨(some 26), none, (.mv (.t 7))⟩, ⟨(some 27), none, (.bin .lss (.t 26) (.c (.t (.int .i64 0))))⟩]) (.cond (.t 27) (.seq (.ops [⟨(some 6), none, (.mv (.c (.t (.bool true))))⟩]) .ret) .skip)) (.seq (.drawn [(.mk 0 false ⟨(some 28), none, (.mv (.t 0))⟩), (.mk 2 false ⟨(some 30), none, (.mv (.t 1))⟩), (.mk 4 false ⟨(some 32), none, (.load (some 4) (.t 5))⟩), (.mk 1 true ⟨(some 29), none, (.call (.c (.fn (.func 15) [])) [(.t 28)])⟩), (.mk 3 true ⟨(some 31), none, (.call (.c (.fn (.func 42) [])) [(.t 30)])⟩), (.mk 5 false ⟨(some 33), none, (.call (.c (.fn (.func 36) [])) [(.t 32)])⟩), (.mk 6 false ⟨(some 34), none, (.call (.c (.fn (.func 41) [])) [(.t 29), (.t 31), (.t 33)])⟩), (.mk 7 false ⟨(some 8), none, (.mv (.t 34))⟩)]) (.seq (.ops [⟨(some 35), none, (.mv (.t 0))⟩, ⟨(some 36), none, (.call (.c (.fn (.func 15) [])) [(.t 35)])⟩, ⟨(some 9), none, (.mv (.t 36))⟩]) (.seq (.ops [⟨(some 37), none, (.mv (.t 1))⟩, ⟨(some 38), none, (.call (.c (.fn (.func 42) [])) [(.t 37)])⟩, ⟨(some 10), none, (.mv (.t 38))⟩]) (.seq (.ops [⟨(some 39), none, (.load (some 4) (.t 5))⟩, ⟨(some 40), none, (.call (.c (.fn (.func 36) [])) [(.t 39)])⟩, ⟨(some 11), none, (.new [.nils, (.t (.str [])), (.t (.str [])), (.t (.str []))])⟩, ⟨none, none, (.store 4 (.t 11) (.t 40))⟩]) (.seq (.ops [⟨(some 41), none, (.mv (.t 9))⟩, ⟨(some 42), none, (.mv (.t 10))⟩, ⟨(some 43), none, (.load (some 4) (.t 11))⟩, ⟨(some 44), none, (.call (.c (.fn (.func 43) [])) [(.t 41), (.t 42), (.t 43)])⟩, ⟨(some 12), none, (.mv (.t 44))⟩]) (.seq (.seq (.ops [⟨(some 45), none, (.mv (.t 12))⟩, ⟨(some 46), none, (.mv (.t 8))⟩, ⟨(some 47), none, (.eqB true (.t 45) (.t 46))⟩]) (.cond (.t 47) (.seq (.ops [⟨(some 6), none, (.mv (.c (.t (.bool false))))⟩]) .ret) .skip)) (.seq (.seq (.ops [⟨(some 48), none, (.mv (.t 9))⟩, ⟨(some 49), none, (.mv (.t 0))⟩, ⟨(some 50), none, (.call (.c (.fn (.func 15) [])) [(.t 49)])⟩, ⟨(some 51), none, (.call (.c (.fn (.func 17) [])) [(.t 48), (.t 50)])⟩, ⟨(some 52), none, (.un .not (.t 51))⟩]) (.cond (.t 52) (.seq (.ops [⟨(some 6), none, (.mv (.c (.t (.bool false))))⟩]) .ret) .skip)) (.seq (.seq (.ops [⟨(some 53), none, (.mv (.t 10))⟩, ⟨(some 54), none, (.mv (.t 1))⟩, ⟨(some 55), none, (.call (.c (.fn (.func 42) [])) [(.t 54)])⟩, ⟨(some 56), none, (.call (.c (.fn (.func 44) [])) [(.t 53), (.t 55)])⟩, ⟨(some 57), none, (.un .not (.t 56))⟩]) (.cond (.t 57) (.seq (.ops [⟨(some 6), none, (.mv (.c (.t (.bool false))))⟩]) .ret) .skip)) (.seq (.seq (.drawn [(.mk 0 false ⟨(some 58), none, (.load (some 4) (.t 11))⟩), (.mk 1 false ⟨(some 59), none, (.load (some 4) (.t 5))⟩), (.mk 2 true ⟨(some 60), none, (.call (.c (.fn (.func 36) [])) [(.t 59)])⟩), (.mk 3 false ⟨(some 61), none, (.call (.c (.fn (.func 39) [])) [(.t 58), (.t 60)])⟩), (.mk 4 false ⟨(some 62), none, (.un .not (.t 61))⟩)]) (.cond (.t 62) (.seq (.ops [⟨(some 6), none, (.mv (.c (.t (.bool false))))⟩]) .ret) .skip)) (.seq (.ops [⟨(some 6), none, (.mv (.c (.t (.bool true))))⟩]) .ret))))))))))))))))))
theorem k_laws_FnExactGateCovers : comp Try.prog 63 (Try.f8.body.getD .skip) = some c_laws_FnExactGateCovers := by kernel_rfl

theorem lawGateCovers (a0 : List GateTeam) (a1 : List GateRule) (a2 : GateRule) (h0 : T.is (.sl 2 shGateTeam) (tGateTeamS a0)) (q0 : (tGateTeamS a0).size ≤ 1048576 → GateTeam.OkS a0) (h1 : T.is (.sl 4 shGateRule) (tGateRuleS a1)) (q1 : (tGateRuleS a1).size ≤ 1048576 → GateRule.OkS a1) (h2 : T.isL shGateRule a2.ts) (q2 : T.sizeL a2.ts ≤ 1048576 → a2.Ok) (σ : Store) : ACalls Try.prog 8 [.t (tGateTeamS a0), .t (tGateRuleS a1), .agg a2.vs] σ fun r _ => r = .t (.bool true) := by
  refine acalls_of Try.func8 (by decide +kernel) (code := Try.f8.body.getD .skip) (n := 63) (c := c_laws_FnExactGateCovers) (rs := [(.tmp 6)]) rfl rfl k_laws_FnExactGateCovers (by kernel_rfl) (by simp) (fun hσ => ?_)
  try simp only [maxLen] at *
  have fin : ∀ {τ : Store}, retV σ.length (fun r _ => r = .t (.bool true)) (σ ++ τ) (some [.t (.bool true)]) := ret_same rfl hσ rfl rfl
  have fin0 : retV σ.length (fun r _ => r = .t (.bool true)) σ (some [.t (.bool true)]) := ret_same0 rfl rfl
  simp -implicitDefEqProofs only [c_laws_FnExactGateCovers, GateRule.vs, tGateRuleS, tGateTeamS, List.length_map, S0, S1, S2, S3, S4, S5, S6, S7, S8, S9, S10, S11, S12, S13, S14, S15, opv, opvs, eget, env0, setD, lenStr, lenSl, isNilP, isNilS, putAt, if_true, if_false, reduceCtorEq, Nat.reduceLeDiff, Nat.reduceEqDiff, Nat.reduceSub, Nat.reduceMul, Nat.reduceAdd]
  refine call_by (by rw [List.append_nil]; exact szGateTeamS (tGateTeamS a0) 1048576 _ h0 (by omega) (by omega)) ?_
  rintro r σ' ⟨⟨m1, rfl, hm1, hs1⟩, rfl⟩
  simp -implicitDefEqProofs only [ne_self, beq_self_eq_true, S0, S1, S2, S3, S4, S5, S6, S7, S8, S9, S10, S11, S12, S13, S14, S15, opv, opvs, eget, env0, setD, lenStr, lenSl, isNilP, isNilS, putAt, if_true, if_false, reduceCtorEq, Nat.reduceLeDiff, Nat.reduceEqDiff, Nat.reduceSub, Nat.reduceMul, Nat.reduceAdd]
  refine cond_split (fun h => ?_) (fun h => ?_)
  · simp -implicitDefEqProofs only [S0, S1, S2, S3, S4, S5, S6, S7, S8, S9, S10, S11, S12, S13, S14, S15, opv, opvs, eget, env0, setD, lenStr, lenSl, isNilP, isNilS, putAt, if_true, if_false, reduceCtorEq, Nat.reduceLeDiff, Nat.reduceEqDiff, Nat.reduceSub, Nat.reduceMul, Nat.reduceAdd]
    first | exact fin | exact fin0
  simp only [decide_eq_false_iff_not, Int.not_lt] at h
  replace hs1 := hs1 h
  simp -implicitDefEqProofs only [ne_self, beq_self_eq_true, S0, S1, S2, S3, S4, S5, S6, S7, S8, S9, S10, S11, S12, S13, S14, S15, opv, opvs, eget, env0, setD, lenStr, lenSl, isNilP, isNilS, putAt, if_true, if_false, reduceCtorEq, Nat.reduceLeDiff, Nat.reduceEqDiff, Nat.reduceSub, Nat.reduceMul, Nat.reduceAdd]
  refine call_by (by rw [List.append_nil]; exact szGateRuleS (tGateRuleS a1) m1 _ h1 (by omega) (by omega)) ?_
  rintro r σ' ⟨⟨m2, rfl, hm2, hs2⟩, rfl⟩
  simp -implicitDefEqProofs only [ne_self, beq_self_eq_true, S0, S1, S2, S3, S4, S5, S6, S7, S8, S9, S10, S11, S12, S13, S14, S15, opv, opvs, eget, env0, setD, lenStr, lenSl, isNilP, isNilS, putAt, if_true, if_false, reduceCtorEq, Nat.reduceLeDiff, Nat.reduceEqDiff, Nat.reduceSub, Nat.reduceMul, Nat.reduceAdd]
  refine cond_split (fun h => ?_) (fun h => ?_)
  · simp -implicitDefEqProofs only [S0, S1, S2, S3, S4, S5, S6, S7, S8, S9, S10, S11, S12, S13, S14, S15, opv, opvs, eget, env0, setD, lenStr, lenSl, isNilP, isNilS, putAt, if_true, if_false, reduceCtorEq, Nat.reduceLeDiff, Nat.reduceEqDiff, Nat.reduceSub, Nat.reduceMul, Nat.reduceAdd]
    first | exact fin | exact fin0
  simp only [decide_eq_false_iff_not, Int.not_lt] at h
  replace hs2 := hs2 h
  simp -implicitDefEqProofs only [ne_self, beq_self_eq_true, S0, S1, S2, S3, S4, S5, S6, S7, S8, S9, S10, S11, S12, S13, S14, S15, opv, opvs, eget, env0, setD, lenStr, lenSl, isNilP, isNilS, putAt, if_true, if_false, reduceCtorEq, Nat.reduceLeDiff, Nat.reduceEqDiff, Nat.reduceSub, Nat.reduceMul, Nat.reduceAdd]
  refine call_by (by rw [List.append_nil]; exact szGateRule a2.ts m2 _ h2 (by omega) (by omega)) ?_
  rintro r σ' ⟨⟨m3, rfl, hm3, hs3⟩, rfl⟩
  simp -implicitDefEqProofs only [ne_self, beq_self_eq_true, S0, S1, S2, S3, S4, S5, S6, S7, S8, S9, S10, S11, S12, S13, S14, S15, opv, opvs, eget, env0, setD, lenStr, lenSl, isNilP, isNilS, putAt, if_true, if_false, reduceCtorEq, Nat.reduceLeDiff, Nat.reduceEqDiff, Nat.reduceSub, Nat.reduceMul, Nat.reduceAdd]
  refine cond_split (fun h => ?_) (fun h => ?_)
  · simp -implicitDefEqProofs only [S0, S1, S2, S3, S4, S5, S6, S7, S8, S9, S10, S11, S12, S13, S14, S15, opv, opvs, eget, env0, setD, lenStr, lenSl, isNilP, isNilS, putAt, if_true, if_false, reduceCtorEq, Nat.reduceLeDiff, Nat.reduceEqDiff, Nat.reduceSub, Nat.reduceMul, Nat.reduceAdd]
    first | exact fin | exact fin0
  simp only [decide_eq_false_iff_not, Int.not_lt] at h
  replace hs3 := hs3 h
  simp -implicitDefEqProofs only [ne_self, beq_self_eq_true, S0, S1, S2, S3, S4, S5, S6, S7, S8, S9, S10, S11, S12, S13, S14, S15, opv, opvs, eget, env0, setD, lenStr, lenSl, isNilP, isNilS, putAt, if_true, if_false, reduceCtorEq, Nat.reduceLeDiff, Nat.reduceEqDiff, Nat.reduceSub, Nat.reduceMul, Nat.reduceAdd]
  have o0 := q0 (by omega)
  have o1 := q1 (by omega)
  have o2 := q2 (by omega)
  refine call_by (by rw [List.append_nil]; exact toGateTeamS (tGateTeamS a0) _ h0 (by omega)) ?_
  rintro u1 σ' ⟨τ1, j1, rfl, p1, w1⟩
  clear w1
  have e1 := p1.one
  simp -implicitDefEqProofs only [one_cells e1, e1, ne_self, beq_self_eq_true, S0, S1, S2, S3, S4, S5, S6, S7, S8, S9, S10, S11, S12, S13, S14, S15, opv, opvs, eget, env0, setD, lenStr, lenSl, isNilP, isNilS, putAt, if_true, if_false, reduceCtorEq, Nat.reduceLeDiff, Nat.reduceEqDiff, Nat.reduceSub, Nat.reduceMul, Nat.reduceAdd]
  refine call_by (by rw [List.append_nil]; exact toGateRuleS (tGateRuleS a1) _ h1 (by omega)) ?_
  rintro u2 σ' ⟨τ2, j2, rfl, p2, w2⟩
  clear w2
  have e2 := p2.one
  simp -implicitDefEqProofs only [one_cells e1, e1, one_cells e2, e2, ne_self, beq_self_eq_true, S0, S1, S2, S3, S4, S5, S6, S7, S8, S9, S10, S11, S12, S13, S14, S15, opv, opvs, eget, env0, setD, lenStr, lenSl, isNilP, isNilS, putAt, if_true, if_false, reduceCtorEq, Nat.reduceLeDiff, Nat.reduceEqDiff, Nat.reduceSub, Nat.reduceMul, Nat.reduceAdd]
  refine call_by (by rw [List.append_nil]; exact toGateRule a2.ts _ h2 (by omega)) ?_
  rintro r σ' ⟨u3, τ3, j3, rfl, rfl, p3, w3⟩
  clear w3
  simp -implicitDefEqProofs only [one_cells e1, e1, one_cells e2, e2, ne_self, beq_self_eq_true, S0, S1, S2, S3, S4, S5, S6, S7, S8, S9, S10, S11, S12, S13, S14, S15, opv, opvs, eget, env0, setD, lenStr, lenSl, isNilP, isNilS, putAt, if_true, if_false, reduceCtorEq, Nat.reduceLeDiff, Nat.reduceEqDiff, Nat.reduceSub, Nat.reduceMul, Nat.reduceAdd]
  refine call_bor (fun σ => spec_GateCovers a0 o0 a1 o1 a2 o2 σ) rfl ⟨_, _, rfl, sees_lst p1 rfl (by simp), _, _, rfl, sees_lst p2 rfl (by simp), _, _, rfl, sees_agg p3 rfl (by simp), rfl⟩ ?_
  simp -implicitDefEqProofs only [one_cells e1, e1, one_cells e2, e2, ne_self, beq_self_eq_true, S0, S1, S2, S3, S4, S5, S6, S7, S8, S9, S10, S11, S12, S13, S14, S15, opv, opvs, eget, env0, setD, lenStr, lenSl, isNilP, isNilS, putAt, if_true, if_false, reduceCtorEq, Nat.reduceLeDiff, Nat.reduceEqDiff, Nat.reduceSub, Nat.reduceMul, Nat.reduceAdd]
  refine call_by (by rw [List.append_nil]; exact toGateTeamS (tGateTeamS a0) _ h0 (by omega)) ?_
  rintro u4 σ' ⟨τ4, j4, rfl, p4, w4⟩
  clear w4
  have e4 := p4.one
  simp -implicitDefEqProofs only [one_cells e1, e1, one_cells e2, e2, one_cells e4, e4, ne_self, beq_self_eq_true, S0, S1, S2, S3, S4, S5, S6, S7, S8, S9, S10, S11, S12, S13, S14, S15, opv, opvs, eget, env0, setD, lenStr, lenSl, isNilP, isNilS, putAt, if_true, if_false, reduceCtorEq, Nat.reduceLeDiff, Nat.reduceEqDiff, Nat.reduceSub, Nat.reduceMul, Nat.reduceAdd]
  refine call_by (by rw [List.append_nil]; exact toGateRuleS (tGateRuleS a1) _ h1 (by omega)) ?_
  rintro u5 σ' ⟨τ5, j5, rfl, p5, w5⟩
  clear w5
  have e5 := p5.one
  simp -implicitDefEqProofs only [one_cells e1, e1, one_cells e2, e2, one_cells e4, e4, one_cells e5, e5, ne_self, beq_self_eq_true, S0, S1, S2, S3, S4, S5, S6, S7, S8, S9, S10, S11, S12, S13, S14, S15, opv, opvs, eget, env0, setD, lenStr, lenSl, isNilP, isNilS, putAt, if_true, if_false, reduceCtorEq, Nat.reduceLeDiff, Nat.reduceEqDiff, Nat.reduceSub, Nat.reduceMul, Nat.reduceAdd]
  refine call_by (by rw [List.append_nil]; exact toGateRule a2.ts _ h2 (by omega)) ?_
  rintro r σ' ⟨u6, τ6, j6, rfl, rfl, p6, w6⟩
  clear w6
  obtain ⟨v6x0, v6x1, v6x2, v6x3, rfl⟩ : ∃ v6x0 v6x1 v6x2 v6x3, u6 = [v6x0, v6x1, v6x2, v6x3] := list4y p6.len
  have e6 := p6.ones
  simp only [List.all_cons, List.all_nil, Bool.and_eq_true, and_true] at e6
  obtain ⟨e6x0, e6x1, e6x2, e6x3⟩ := e6
  simp -implicitDefEqProofs only [one_cells e1, e1, one_cells e2, e2, one_cells e4, e4, one_cells e5, e5, e6x0, e6x1, e6x2, e6x3, ne_self, beq_self_eq_true, S0, S1, S2, S3, S4, S5, S6, S7, S8, S9, S10, S11, S12, S13, S14, S15, opv, opvs, eget, env0, setD, lenStr, lenSl, isNilP, isNilS, putAt, if_true, if_false, reduceCtorEq, Nat.reduceLeDiff, Nat.reduceEqDiff, Nat.reduceSub, Nat.reduceMul, Nat.reduceAdd]
  refine call_bor (fun σ => impl_GateCovers a0 o0 a1 o1 a2 o2 σ) rfl ⟨_, _, rfl, sees_lst p4 rfl (by simp), _, _, rfl, sees_lst p5 rfl (by simp), _, _, rfl, sees_agg p6 rfl (by simp), rfl⟩ ?_
  simp -implicitDefEqProofs only [one_cells e1, e1, one_cells e2, e2, one_cells e4, e4, one_cells e5, e5, e6x0, e6x1, e6x2, e6x3, ne_self, beq_self_eq_true, S0, S1, S2, S3, S4, S5, S6, S7, S8, S9, S10, S11, S12, S13, S14, S15, opv, opvs, eget, env0, setD, lenStr, lenSl, isNilP, isNilS, putAt, if_true, if_false, reduceCtorEq, Nat.reduceLeDiff, Nat.reduceEqDiff, Nat.reduceSub, Nat.reduceMul, Nat.reduceAdd]
  refine call_by (by rw [List.append_nil]; exact toGateTeamS (tGateTeamS a0) _ h0 (by omega)) ?_
  rintro u7 σ' ⟨τ7, j7, rfl, p7, w7⟩
  clear w7
  have e7 := p7.one
  simp -implicitDefEqProofs only [one_cells e1, e1, one_cells e2, e2, one_cells e4, e4, one_cells e5, e5, e6x0, e6x1, e6x2, e6x3, one_cells e7, e7, ne_self, beq_self_eq_true, S0, S1, S2, S3, S4, S5, S6, S7, S8, S9, S10, S11, S12, S13, S14, S15, opv, opvs, eget, env0, setD, lenStr, lenSl, isNilP, isNilS, putAt, if_true, if_false, reduceCtorEq, Nat.reduceLeDiff, Nat.reduceEqDiff, Nat.reduceSub, Nat.reduceMul, Nat.reduceAdd]
  refine call_bor (fun σ => eqGateTeamS (tGateTeamS a0) σ h0 (by omega)) rfl ⟨_, _, rfl, sees_lst p4 rfl (by simp), _, _, rfl, sees_lst p7 rfl (by simp), rfl⟩ ?_
  simp -implicitDefEqProofs only [one_cells e1, e1, one_cells e2, e2, one_cells e4, e4, one_cells e5, e5, e6x0, e6x1, e6x2, e6x3, one_cells e7, e7, ne_self, beq_self_eq_true, S0, S1, S2, S3, S4, S5, S6, S7, S8, S9, S10, S11, S12, S13, S14, S15, opv, opvs, eget, env0, setD, lenStr, lenSl, isNilP, isNilS, putAt, if_true, if_false, reduceCtorEq, Nat.reduceLeDiff, Nat.reduceEqDiff, Nat.reduceSub, Nat.reduceMul, Nat.reduceAdd]
  refine call_by (by rw [List.append_nil]; exact toGateRuleS (tGateRuleS a1) _ h1 (by omega)) ?_
  rintro u8 σ' ⟨τ8, j8, rfl, p8, w8⟩
  clear w8
  have e8 := p8.one
  simp -implicitDefEqProofs only [one_cells e1, e1, one_cells e2, e2, one_cells e4, e4, one_cells e5, e5, e6x0, e6x1, e6x2, e6x3, one_cells e7, e7, one_cells e8, e8, ne_self, beq_self_eq_true, S0, S1, S2, S3, S4, S5, S6, S7, S8, S9, S10, S11, S12, S13, S14, S15, opv, opvs, eget, env0, setD, lenStr, lenSl, isNilP, isNilS, putAt, if_true, if_false, reduceCtorEq, Nat.reduceLeDiff, Nat.reduceEqDiff, Nat.reduceSub, Nat.reduceMul, Nat.reduceAdd]
  refine call_bor (fun σ => eqGateRuleS (tGateRuleS a1) σ h1 (by omega)) rfl ⟨_, _, rfl, sees_lst p5 rfl (by simp), _, _, rfl, sees_lst p8 rfl (by simp), rfl⟩ ?_
  simp -implicitDefEqProofs only [one_cells e1, e1, one_cells e2, e2, one_cells e4, e4, one_cells e5, e5, e6x0, e6x1, e6x2, e6x3, one_cells e7, e7, one_cells e8, e8, ne_self, beq_self_eq_true, S0, S1, S2, S3, S4, S5, S6, S7, S8, S9, S10, S11, S12, S13, S14, S15, opv, opvs, eget, env0, setD, lenStr, lenSl, isNilP, isNilS, putAt, if_true, if_false, reduceCtorEq, Nat.reduceLeDiff, Nat.reduceEqDiff, Nat.reduceSub, Nat.reduceMul, Nat.reduceAdd]
  refine call_by (by rw [List.append_nil]; exact toGateRule a2.ts _ h2 (by omega)) ?_
  rintro r σ' ⟨u9, τ9, j9, rfl, rfl, p9, w9⟩
  clear w9
  simp -implicitDefEqProofs only [one_cells e1, e1, one_cells e2, e2, one_cells e4, e4, one_cells e5, e5, e6x0, e6x1, e6x2, e6x3, one_cells e7, e7, one_cells e8, e8, ne_self, beq_self_eq_true, S0, S1, S2, S3, S4, S5, S6, S7, S8, S9, S10, S11, S12, S13, S14, S15, opv, opvs, eget, env0, setD, lenStr, lenSl, isNilP, isNilS, putAt, if_true, if_false, reduceCtorEq, Nat.reduceLeDiff, Nat.reduceEqDiff, Nat.reduceSub, Nat.reduceMul, Nat.reduceAdd]
  refine call_bor (fun σ => eqGateRule a2.ts σ h2 (by omega)) rfl ⟨_, _, rfl, sees_agg p6 rfl (by simp), _, _, rfl, sees_agg p9 rfl (by simp), rfl⟩ ?_
  simp -implicitDefEqProofs only [one_cells e1, e1, one_cells e2, e2, one_cells e4, e4, one_cells e5, e5, e6x0, e6x1, e6x2, e6x3, one_cells e7, e7, one_cells e8, e8, ne_self, beq_self_eq_true, S0, S1, S2, S3, S4, S5, S6, S7, S8, S9, S10, S11, S12, S13, S14, S15, opv, opvs, eget, env0, setD, lenStr, lenSl, isNilP, isNilS, putAt, if_true, if_false, reduceCtorEq, Nat.reduceLeDiff, Nat.reduceEqDiff, Nat.reduceSub, Nat.reduceMul, Nat.reduceAdd]
  first | exact fin | exact fin0
end Go.Proofs.Ytgdmgoidfglobaa.LGateCovers
