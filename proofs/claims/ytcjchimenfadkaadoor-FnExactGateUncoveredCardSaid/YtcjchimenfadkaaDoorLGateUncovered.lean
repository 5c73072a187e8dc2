/- FnExactGateUncovered: what the law's code does: it returns true. Conditions: none. -/
import Derived.Test.YtcjchimenfadkaaDoorGateUncI
set_option linter.unusedSimpArgs false
set_option linter.unusedVariables false
set_option linter.defProp false
open Go Go.Ab
set_option maxHeartbeats 4000000
namespace Go.Proofs.YtcjchimenfadkaaDoor.LGateUncovered
open Go.Proofs.YtcjchimenfadkaaDoor.W
theorem list4y {l : List V} (h : l.length = 4) : ∃ u0 u1 u2 u3, l = [u0, u1, u2, u3] := by
  match l, h with
  | [u0, u1, u2, u3], _ => exact ⟨u0, u1, u2, u3, rfl⟩
def c_laws_FnExactGateUncovered : C := (.seq (.ops [⟨(some 5), none, (.box (.t 2))⟩, ⟨(some 6), none, (.mv (.c (.t (.bool false))))⟩]) (.seq (.ops [⟨(some 7), none, (.mv (.c (.t (.int .i64 1048576))))⟩]) (.seq (.ops [⟨(some 15), none, (.mv (.t 0))⟩, ⟨(some 16), none, (.mv (.t 7))⟩, ⟨(some 17), none, (.call (.c (.fn (.func 7) [])) [(.t 15), (.t 16)])⟩, ⟨(some 7), none, (.mv (.t 17))⟩]) (.seq (.seq (.ops [⟨(some 18), none, (.mv (.t 7))⟩, ⟨(some 19), none, (.bin .lss (.t 18) (.c (.t (.int .i64 0))))⟩]) (.cond (.t 19) (.seq (.ops [⟨(some 6), none, (.mv (.c (.t (.bool true))))⟩]) .ret) .skip)) (.seq (.ops [⟨(some 20), none, (.mv (.t 1))⟩, ⟨(some 21), none, (.mv (.t 7))⟩, ⟨(some 22), none, (.call (.c (.fn (.func 8) [])) [(.t 20), (.t 21)])⟩, ⟨(some 7), none, (.mv (.t 22))⟩]) (.seq (.seq (.ops [⟨(some 23), none, (.mv (.t 7))⟩, ⟨(some 24), none, (.bin .lss (.t 23) (.c (.t (.int .i64 0))))⟩]) (.cond (.t 24) (.seq (.ops [⟨(some 6), none, (.mv (.c (.t (.bool true))))⟩]) .ret) .skip)) (.seq (.ops [⟨(some 25), none, (.load (some 4) (.t 5))⟩, ⟨(some 26), none, (.mv (.t 7))⟩, ⟨(some 27), none, (.call (.c (.fn (.func 9) [])) [(.t 25), (.t 26)])⟩, ⟨(some 7), none, (.mv (.t 27))⟩]) (.seq (.seq (.ops [⟨(some 28), none, (.mv (.t 7))⟩, ⟨(some 29), none, (.bin .lss (.t 28) (.c (.t (.int .i64 0))))⟩]) (.cond (.t 29) (.seq (.ops [⟨(some 6), none, (.mv (.c (.t (.bool true))))⟩]) .ret) .skip)) (.seq (.drawn [(.mk 0 false ⟨(some 31), none, (.mv (.t 0))⟩ []), (.mk 1 false ⟨(some 32), none, (.callQ (.c (.fn (.func 11) [])) [(.t 31)])⟩ []), (.mk 2 false ⟨(some 33), none, (.mv (.t 1))⟩ []), (.mk 3 false ⟨(some 34), none, (.callQ (.c (.fn (.func 12) [])) [(.t 33)])⟩ []), (.mk 4 false ⟨(some 35), none, (.load (some 4) (.t 5))⟩ []), (.mk 5 false ⟨(some 36), none, (.callQ (.c (.fn (.func 13) [])) [(.t 35)])⟩ []), (.mk 6 false ⟨(some 37), none, (.callQ (.c (.fn (.func 10) [])) [(.t 32), (.t 34), (.t 36)])⟩ []), (.mk 7 false ⟨(some 30), none, (.mv (.t 37))⟩ []), (.mk 8 false ⟨(some 38), none, (.extract (.t 30) 0)⟩ []), (.mk 9 false ⟨(some 39), none, (.extract (.t 30) 1)⟩ []), (.mk 10 true ⟨(some 8), none, (.new [(.t (.int .i64 0)), (.t (.str [])), (.t (.str [])), (.t (.str []))])⟩ [⟨(some 32), none, (.callQ (.c (.fn (.func 11) [])) [(.t 31)])⟩, ⟨(some 34), none, (.callQ (.c (.fn (.func 12) [])) [(.t 33)])⟩, ⟨(some 35), none, (.load (some 4) (.t 5))⟩, ⟨(some 36), none, (.callQ (.c (.fn (.func 13) [])) [(.t 35)])⟩, ⟨(some 37), none, (.callQ (.c (.fn (.func 10) [])) [(.t 32), (.t 34), (.t 36)])⟩]), (.mk 11 false ⟨none, none, (.store 4 (.t 8) (.t 38))⟩ []), (.mk 12 false ⟨(some 9), none, (.mv (.t 39))⟩ [])]) (.seq (.ops [⟨(some 40), none, (.mv (.t 0))⟩, ⟨(some 41), none, (.call (.c (.fn (.func 11) [])) [(.t 40)])⟩, ⟨(some 10), none, (.mv (.t 41))⟩]) (.seq (.ops [⟨(some 42), none, (.mv (.t 1))⟩, ⟨(some 43), none, (.call (.c (.fn (.func 12) [])) [(.t 42)])⟩, ⟨(some 11), none, (.mv (.t 43))⟩]) (.seq (.ops [⟨(some 44), none, (.load (some 4) (.t 5))⟩, ⟨(some 45), none, (.call (.c (.fn (.func 13) [])) [(.t 44)])⟩, ⟨(some 12), none, (.new [.nils, (.t (.str [])), (.t (.str [])), (.t (.str []))])⟩, ⟨none, none, (.store 4 (.t 12) (.t 45))⟩]) (.seq (.ops [⟨(some 47), none, (.mv (.t 10))⟩, ⟨(some 48), none, (.mv (.t 11))⟩, ⟨(some 49), none, (.load (some 4) (.t 12))⟩, ⟨(some 50), none, (.call (.c (.fn (.func 14) [])) [(.t 47), (.t 48), (.t 49)])⟩, ⟨(some 46), none, (.mv (.t 50))⟩, ⟨(some 51), none, (.extract (.t 46) 0)⟩, ⟨(some 52), none, (.extract (.t 46) 1)⟩, ⟨(some 13), none, (.new [(.t (.int .i64 0)), (.t (.str [])), (.t (.str [])), (.t (.str []))])⟩, ⟨none, none, (.store 4 (.t 13) (.t 51))⟩, ⟨(some 14), none, (.mv (.t 52))⟩]) (.seq (.seq (.ops [⟨(some 53), none, (.load (some 4) (.t 13))⟩, ⟨(some 54), none, (.load (some 4) (.t 8))⟩, ⟨(some 55), none, (.call (.c (.fn (.func 15) [])) [(.t 53), (.t 54)])⟩, ⟨(some 56), none, (.un .not (.t 55))⟩, ⟨(some 57), none, (.mv (.t 56))⟩, ⟨(some 58), (some ⟨57, false⟩), (.mv (.t 14))⟩, ⟨(some 59), (some ⟨57, false⟩), (.mv (.t 9))⟩, ⟨(some 60), (some ⟨57, false⟩), (.eqB true (.t 58) (.t 59))⟩, ⟨(some 61), none, (.pick (.t 57) (.c (.t (.bool true))) (.t 60))⟩]) (.cond (.t 61) (.seq (.ops [⟨(some 6), none, (.mv (.c (.t (.bool false))))⟩]) .ret) .skip)) (.seq (.seq (.ops [⟨(some 62), none, (.mv (.t 10))⟩, ⟨(some 63), none, (.mv (.t 0))⟩, ⟨(some 64), none, (.call (.c (.fn (.func 11) [])) [(.t 63)])⟩, ⟨(some 65), none, (.call (.c (.fn (.func 16) [])) [(.t 62), (.t 64)])⟩, ⟨(some 66), none, (.un .not (.t 65))⟩]) (.cond (.t 66) (.seq (.ops [⟨(some 6), none, (.mv (.c (.t (.bool false))))⟩]) .ret) .skip)) (.seq (.seq (.ops [⟨(some 67), none, (.mv (.t 11))⟩, ⟨(some 68), none, (.mv (.t 1))⟩, ⟨(some 69), none, (.call (.c (.fn (.func 12) [])) [(.t 68)])⟩, ⟨(some 70), none, (.call (.c (.fn (.func 17) [])) [(.t 67), (.t 69)])⟩, ⟨(some 71), none, (.un .not (.t 70))⟩]) (.cond (.t 71) (.seq (.ops [⟨(some 6), none, (.mv (.c (.t (.bool false))))⟩]) .ret) .skip)) (.seq (.seq (.drawn [(.mk 0 false ⟨(some 72), none, (.load (some 4) (.t 12))⟩ []), (.mk 1 false ⟨(some 73), none, (.load (some 4) (.t 5))⟩ []), (.mk 2 true ⟨(some 74), none, (.call (.c (.fn (.func 13) [])) [(.t 73)])⟩ [⟨(some 72), none, (.load (some 4) (.t 12))⟩]), (.mk 3 false ⟨(some 75), none, (.call (.c (.fn (.func 18) [])) [(.t 72), (.t 74)])⟩ []), (.mk 4 false ⟨(some 76), none, (.un .not (.t 75))⟩ [])]) (.cond (.t 76) (.seq (.ops [⟨(some 6), none, (.mv (.c (.t (.bool false))))⟩]) .ret) .skip)) (.seq (.ops [⟨(some 6), none, (.mv (.c (.t (.bool true))))⟩]) .ret))))))))))))))))))
theorem k_laws_FnExactGateUncovered : comp Tryd.prog 77 (Tryd.f3.body.getD .skip) = some c_laws_FnExactGateUncovered := by kernel_rfl

theorem lawGateUncovered (a0 : List GateTeam) (a1 : List GateRule) (a2 : GateRule) (h0 : T.is (.sl 2 shGateTeam) (tGateTeamS a0)) (q0 : (tGateTeamS a0).size ≤ 1048576 → GateTeam.OkS a0) (h1 : T.is (.sl 4 shGateRule) (tGateRuleS a1)) (q1 : (tGateRuleS a1).size ≤ 1048576 → GateRule.OkS a1) (h2 : T.isL shGateRule a2.ts) (q2 : T.sizeL a2.ts ≤ 1048576 → a2.Ok) (σ : Store) (hg : PowAt σ) : ACalls Tryd.prog 3 [.t (tGateTeamS a0), .t (tGateRuleS a1), .agg a2.vs] σ fun r _ => r = .t (.bool true) := by
  refine acalls_of Tryd.func3 (by decide +kernel) (code := Tryd.f3.body.getD .skip) (n := 77) (c := c_laws_FnExactGateUncovered) (rs := [(.tmp 6)]) rfl rfl k_laws_FnExactGateUncovered (by kernel_rfl) (by simp) (fun hσ => ?_)
  try simp only [maxLen] at *
  have fin : ∀ {τ : Store}, retV σ.length (fun r _ => r = .t (.bool true)) (σ ++ τ) (some [.t (.bool true)]) := ret_same rfl hσ rfl rfl
  have fin0 : retV σ.length (fun r _ => r = .t (.bool true)) σ (some [.t (.bool true)]) := ret_same0 rfl rfl
  simp -implicitDefEqProofs only [c_laws_FnExactGateUncovered, GateRule.vs, tGateRuleS, tGateTeamS, List.length_map, S0, S1, S2, S3, S4, S5, S6, S7, S8, S9, S10, S11, S12, S13, S14, S15, S16, S17, opv, opvs, eget, env0, setD, lenStr, lenSl, isNilP, isNilS, putAt, if_true, if_false, reduceCtorEq, Nat.reduceLeDiff, Nat.reduceEqDiff, Nat.reduceSub, Nat.reduceMul, Nat.reduceAdd]
  refine call_by (by rw [List.append_nil]; exact szGateTeamS (tGateTeamS a0) 1048576 _ h0 (by omega) (by omega)) ?_
  rintro r σ' ⟨⟨m1, rfl, hm1, hs1⟩, rfl⟩
  simp -implicitDefEqProofs only [uncV, GateAct.vs, ne_self, beq_self_eq_true, S0, S1, S2, S3, S4, S5, S6, S7, S8, S9, S10, S11, S12, S13, S14, S15, S16, S17, opv, opvs, eget, env0, setD, lenStr, lenSl, isNilP, isNilS, putAt, if_true, if_false, reduceCtorEq, Nat.reduceLeDiff, Nat.reduceEqDiff, Nat.reduceSub, Nat.reduceMul, Nat.reduceAdd]
  refine cond_split (fun h => ?_) (fun h => ?_)
  · simp -implicitDefEqProofs only [S0, S1, S2, S3, S4, S5, S6, S7, S8, S9, S10, S11, S12, S13, S14, S15, S16, S17, opv, opvs, eget, env0, setD, lenStr, lenSl, isNilP, isNilS, putAt, if_true, if_false, reduceCtorEq, Nat.reduceLeDiff, Nat.reduceEqDiff, Nat.reduceSub, Nat.reduceMul, Nat.reduceAdd]
    first | exact fin | exact fin0
  simp only [decide_eq_false_iff_not, Int.not_lt] at h
  replace hs1 := hs1 h
  simp -implicitDefEqProofs only [uncV, GateAct.vs, ne_self, beq_self_eq_true, S0, S1, S2, S3, S4, S5, S6, S7, S8, S9, S10, S11, S12, S13, S14, S15, S16, S17, opv, opvs, eget, env0, setD, lenStr, lenSl, isNilP, isNilS, putAt, if_true, if_false, reduceCtorEq, Nat.reduceLeDiff, Nat.reduceEqDiff, Nat.reduceSub, Nat.reduceMul, Nat.reduceAdd]
  refine call_by (by rw [List.append_nil]; exact szGateRuleS (tGateRuleS a1) m1 _ h1 (by omega) (by omega)) ?_
  rintro r σ' ⟨⟨m2, rfl, hm2, hs2⟩, rfl⟩
  simp -implicitDefEqProofs only [uncV, GateAct.vs, ne_self, beq_self_eq_true, S0, S1, S2, S3, S4, S5, S6, S7, S8, S9, S10, S11, S12, S13, S14, S15, S16, S17, opv, opvs, eget, env0, setD, lenStr, lenSl, isNilP, isNilS, putAt, if_true, if_false, reduceCtorEq, Nat.reduceLeDiff, Nat.reduceEqDiff, Nat.reduceSub, Nat.reduceMul, Nat.reduceAdd]
  refine cond_split (fun h => ?_) (fun h => ?_)
  · simp -implicitDefEqProofs only [S0, S1, S2, S3, S4, S5, S6, S7, S8, S9, S10, S11, S12, S13, S14, S15, S16, S17, opv, opvs, eget, env0, setD, lenStr, lenSl, isNilP, isNilS, putAt, if_true, if_false, reduceCtorEq, Nat.reduceLeDiff, Nat.reduceEqDiff, Nat.reduceSub, Nat.reduceMul, Nat.reduceAdd]
    first | exact fin | exact fin0
  simp only [decide_eq_false_iff_not, Int.not_lt] at h
  replace hs2 := hs2 h
  simp -implicitDefEqProofs only [uncV, GateAct.vs, ne_self, beq_self_eq_true, S0, S1, S2, S3, S4, S5, S6, S7, S8, S9, S10, S11, S12, S13, S14, S15, S16, S17, opv, opvs, eget, env0, setD, lenStr, lenSl, isNilP, isNilS, putAt, if_true, if_false, reduceCtorEq, Nat.reduceLeDiff, Nat.reduceEqDiff, Nat.reduceSub, Nat.reduceMul, Nat.reduceAdd]
  refine call_by (by rw [List.append_nil]; exact szGateRule a2.ts m2 _ h2 (by omega) (by omega)) ?_
  rintro r σ' ⟨⟨m3, rfl, hm3, hs3⟩, rfl⟩
  simp -implicitDefEqProofs only [uncV, GateAct.vs, ne_self, beq_self_eq_true, S0, S1, S2, S3, S4, S5, S6, S7, S8, S9, S10, S11, S12, S13, S14, S15, S16, S17, opv, opvs, eget, env0, setD, lenStr, lenSl, isNilP, isNilS, putAt, if_true, if_false, reduceCtorEq, Nat.reduceLeDiff, Nat.reduceEqDiff, Nat.reduceSub, Nat.reduceMul, Nat.reduceAdd]
  refine cond_split (fun h => ?_) (fun h => ?_)
  · simp -implicitDefEqProofs only [S0, S1, S2, S3, S4, S5, S6, S7, S8, S9, S10, S11, S12, S13, S14, S15, S16, S17, opv, opvs, eget, env0, setD, lenStr, lenSl, isNilP, isNilS, putAt, if_true, if_false, reduceCtorEq, Nat.reduceLeDiff, Nat.reduceEqDiff, Nat.reduceSub, Nat.reduceMul, Nat.reduceAdd]
    first | exact fin | exact fin0
  simp only [decide_eq_false_iff_not, Int.not_lt] at h
  replace hs3 := hs3 h
  simp -implicitDefEqProofs only [uncV, GateAct.vs, ne_self, beq_self_eq_true, S0, S1, S2, S3, S4, S5, S6, S7, S8, S9, S10, S11, S12, S13, S14, S15, S16, S17, opv, opvs, eget, env0, setD, lenStr, lenSl, isNilP, isNilS, putAt, if_true, if_false, reduceCtorEq, Nat.reduceLeDiff, Nat.reduceEqDiff, Nat.reduceSub, Nat.reduceMul, Nat.reduceAdd]
  have o0 := q0 (by omega)
  have o1 := q1 (by omega)
  have o2 := q2 (by omega)
  refine call_pureQ (fun τ => acalls_frzT (toGateTeamS (tGateTeamS a0) _ h0 (by omega))) ?_
  simp -implicitDefEqProofs only [uncV, GateAct.vs, GateRule.vs, tGateRuleS, tGateTeamS, ne_self, beq_self_eq_true, S0, S1, S2, S3, S4, S5, S6, S7, S8, S9, S10, S11, S12, S13, S14, S15, S16, S17, opv, opvs, eget, env0, setD, lenStr, lenSl, isNilP, isNilS, putAt, if_true, if_false, reduceCtorEq, Nat.reduceLeDiff, Nat.reduceEqDiff, Nat.reduceSub, Nat.reduceMul, Nat.reduceAdd]
  refine call_pureQ (fun τ => acalls_frzT (toGateRuleS (tGateRuleS a1) _ h1 (by omega))) ?_
  simp -implicitDefEqProofs only [uncV, GateAct.vs, GateRule.vs, tGateRuleS, tGateTeamS, ne_self, beq_self_eq_true, S0, S1, S2, S3, S4, S5, S6, S7, S8, S9, S10, S11, S12, S13, S14, S15, S16, S17, opv, opvs, eget, env0, setD, lenStr, lenSl, isNilP, isNilS, putAt, if_true, if_false, reduceCtorEq, Nat.reduceLeDiff, Nat.reduceEqDiff, Nat.reduceSub, Nat.reduceMul, Nat.reduceAdd]
  refine call_pureQ (fun τ => acalls_frzTL (toGateRule a2.ts _ h2 (by omega))) ?_
  simp only [GateRule.vs_ts]
  simp -implicitDefEqProofs only [uncV, GateAct.vs, GateRule.vs, tGateRuleS, tGateTeamS, ne_self, beq_self_eq_true, S0, S1, S2, S3, S4, S5, S6, S7, S8, S9, S10, S11, S12, S13, S14, S15, S16, S17, opv, opvs, eget, env0, setD, lenStr, lenSl, isNilP, isNilS, putAt, if_true, if_false, reduceCtorEq, Nat.reduceLeDiff, Nat.reduceEqDiff, Nat.reduceSub, Nat.reduceMul, Nat.reduceAdd]
  refine call_pureQ (fun τ => spec_GateUncovered a0 o0 a1 o1 a2 o2 _) ?_
  simp -implicitDefEqProofs only [uncV, GateAct.vs, ne_self, beq_self_eq_true, S0, S1, S2, S3, S4, S5, S6, S7, S8, S9, S10, S11, S12, S13, S14, S15, S16, S17, opv, opvs, eget, env0, setD, lenStr, lenSl, isNilP, isNilS, putAt, if_true, if_false, reduceCtorEq, Nat.reduceLeDiff, Nat.reduceEqDiff, Nat.reduceSub, Nat.reduceMul, Nat.reduceAdd]
  refine call_by (by rw [List.append_nil]; exact toGateTeamS (tGateTeamS a0) _ h0 (by omega)) ?_
  rintro u1 σ' ⟨τ1, j1, rfl, p1, w1⟩
  clear w1
  have e1 := p1.one
  simp -implicitDefEqProofs only [uncV, GateAct.vs, one_cells e1, e1, ne_self, beq_self_eq_true, S0, S1, S2, S3, S4, S5, S6, S7, S8, S9, S10, S11, S12, S13, S14, S15, S16, S17, opv, opvs, eget, env0, setD, lenStr, lenSl, isNilP, isNilS, putAt, if_true, if_false, reduceCtorEq, Nat.reduceLeDiff, Nat.reduceEqDiff, Nat.reduceSub, Nat.reduceMul, Nat.reduceAdd]
  refine call_by (by rw [List.append_nil]; exact toGateRuleS (tGateRuleS a1) _ h1 (by omega)) ?_
  rintro u2 σ' ⟨τ2, j2, rfl, p2, w2⟩
  clear w2
  have e2 := p2.one
  simp -implicitDefEqProofs only [uncV, GateAct.vs, one_cells e1, e1, one_cells e2, e2, ne_self, beq_self_eq_true, S0, S1, S2, S3, S4, S5, S6, S7, S8, S9, S10, S11, S12, S13, S14, S15, S16, S17, opv, opvs, eget, env0, setD, lenStr, lenSl, isNilP, isNilS, putAt, if_true, if_false, reduceCtorEq, Nat.reduceLeDiff, Nat.reduceEqDiff, Nat.reduceSub, Nat.reduceMul, Nat.reduceAdd]
  refine call_by (by rw [List.append_nil]; exact toGateRule a2.ts _ h2 (by omega)) ?_
  rintro r σ' ⟨u3, τ3, j3, rfl, rfl, p3, w3⟩
  clear w3
  obtain ⟨v3x0, v3x1, v3x2, v3x3, rfl⟩ : ∃ v3x0 v3x1 v3x2 v3x3, u3 = [v3x0, v3x1, v3x2, v3x3] := list4y p3.len
  have e3 := p3.ones
  simp only [List.all_cons, List.all_nil, Bool.and_eq_true, and_true] at e3
  obtain ⟨e3x0, e3x1, e3x2, e3x3⟩ := e3
  simp -implicitDefEqProofs only [uncV, GateAct.vs, one_cells e1, e1, one_cells e2, e2, e3x0, e3x1, e3x2, e3x3, ne_self, beq_self_eq_true, S0, S1, S2, S3, S4, S5, S6, S7, S8, S9, S10, S11, S12, S13, S14, S15, S16, S17, opv, opvs, eget, env0, setD, lenStr, lenSl, isNilP, isNilS, putAt, if_true, if_false, reduceCtorEq, Nat.reduceLeDiff, Nat.reduceEqDiff, Nat.reduceSub, Nat.reduceMul, Nat.reduceAdd]
  refine call_borG (C := PowAt) (fun σ h => h.husk) (by repeat' (first | exact hg | refine VarAt.app ?_ _)) (fun σ h => impl_GateUncovered a0 o0 a1 o1 a2 o2 σ h) rfl ⟨_, _, rfl, sees_lst p1 rfl (by simp), _, _, rfl, sees_lst p2 rfl (by simp), _, _, rfl, sees_agg p3 rfl (by simp), rfl⟩ ?_
  simp -implicitDefEqProofs only [uncV, GateAct.vs, one_cells e1, e1, one_cells e2, e2, e3x0, e3x1, e3x2, e3x3, ne_self, beq_self_eq_true, S0, S1, S2, S3, S4, S5, S6, S7, S8, S9, S10, S11, S12, S13, S14, S15, S16, S17, opv, opvs, eget, env0, setD, lenStr, lenSl, isNilP, isNilS, putAt, if_true, if_false, reduceCtorEq, Nat.reduceLeDiff, Nat.reduceEqDiff, Nat.reduceSub, Nat.reduceMul, Nat.reduceAdd]
  refine call_pure (eqvGateAct _ _ _ _ _) ?_
  simp -implicitDefEqProofs only [uncV, GateAct.vs, one_cells e1, e1, one_cells e2, e2, e3x0, e3x1, e3x2, e3x3, ne_self, beq_self_eq_true, S0, S1, S2, S3, S4, S5, S6, S7, S8, S9, S10, S11, S12, S13, S14, S15, S16, S17, opv, opvs, eget, env0, setD, lenStr, lenSl, isNilP, isNilS, putAt, if_true, if_false, reduceCtorEq, Nat.reduceLeDiff, Nat.reduceEqDiff, Nat.reduceSub, Nat.reduceMul, Nat.reduceAdd]
  refine call_by (by rw [List.append_nil]; exact toGateTeamS (tGateTeamS a0) _ h0 (by omega)) ?_
  rintro u4 σ' ⟨τ4, j4, rfl, p4, w4⟩
  clear w4
  have e4 := p4.one
  simp -implicitDefEqProofs only [uncV, GateAct.vs, one_cells e1, e1, one_cells e2, e2, e3x0, e3x1, e3x2, e3x3, one_cells e4, e4, ne_self, beq_self_eq_true, S0, S1, S2, S3, S4, S5, S6, S7, S8, S9, S10, S11, S12, S13, S14, S15, S16, S17, opv, opvs, eget, env0, setD, lenStr, lenSl, isNilP, isNilS, putAt, if_true, if_false, reduceCtorEq, Nat.reduceLeDiff, Nat.reduceEqDiff, Nat.reduceSub, Nat.reduceMul, Nat.reduceAdd]
  refine call_bor (fun σ => eqGateTeamS (tGateTeamS a0) σ h0 (by omega)) rfl ⟨_, _, rfl, sees_lst p1 rfl (by simp), _, _, rfl, sees_lst p4 rfl (by simp), rfl⟩ ?_
  simp -implicitDefEqProofs only [uncV, GateAct.vs, one_cells e1, e1, one_cells e2, e2, e3x0, e3x1, e3x2, e3x3, one_cells e4, e4, ne_self, beq_self_eq_true, S0, S1, S2, S3, S4, S5, S6, S7, S8, S9, S10, S11, S12, S13, S14, S15, S16, S17, opv, opvs, eget, env0, setD, lenStr, lenSl, isNilP, isNilS, putAt, if_true, if_false, reduceCtorEq, Nat.reduceLeDiff, Nat.reduceEqDiff, Nat.reduceSub, Nat.reduceMul, Nat.reduceAdd]
  refine call_by (by rw [List.append_nil]; exact toGateRuleS (tGateRuleS a1) _ h1 (by omega)) ?_
  rintro u5 σ' ⟨τ5, j5, rfl, p5, w5⟩
  clear w5
  have e5 := p5.one
  simp -implicitDefEqProofs only [uncV, GateAct.vs, one_cells e1, e1, one_cells e2, e2, e3x0, e3x1, e3x2, e3x3, one_cells e4, e4, one_cells e5, e5, ne_self, beq_self_eq_true, S0, S1, S2, S3, S4, S5, S6, S7, S8, S9, S10, S11, S12, S13, S14, S15, S16, S17, opv, opvs, eget, env0, setD, lenStr, lenSl, isNilP, isNilS, putAt, if_true, if_false, reduceCtorEq, Nat.reduceLeDiff, Nat.reduceEqDiff, Nat.reduceSub, Nat.reduceMul, Nat.reduceAdd]
  refine call_bor (fun σ => eqGateRuleS (tGateRuleS a1) σ h1 (by omega)) rfl ⟨_, _, rfl, sees_lst p2 rfl (by simp), _, _, rfl, sees_lst p5 rfl (by simp), rfl⟩ ?_
  simp -implicitDefEqProofs only [uncV, GateAct.vs, one_cells e1, e1, one_cells e2, e2, e3x0, e3x1, e3x2, e3x3, one_cells e4, e4, one_cells e5, e5, ne_self, beq_self_eq_true, S0, S1, S2, S3, S4, S5, S6, S7, S8, S9, S10, S11, S12, S13, S14, S15, S16, S17, opv, opvs, eget, env0, setD, lenStr, lenSl, isNilP, isNilS, putAt, if_true, if_false, reduceCtorEq, Nat.reduceLeDiff, Nat.reduceEqDiff, Nat.reduceSub, Nat.reduceMul, Nat.reduceAdd]
  refine call_by (by rw [List.append_nil]; exact toGateRule a2.ts _ h2 (by omega)) ?_
  rintro r σ' ⟨u6, τ6, j6, rfl, rfl, p6, w6⟩
  clear w6
  simp -implicitDefEqProofs only [uncV, GateAct.vs, one_cells e1, e1, one_cells e2, e2, e3x0, e3x1, e3x2, e3x3, one_cells e4, e4, one_cells e5, e5, ne_self, beq_self_eq_true, S0, S1, S2, S3, S4, S5, S6, S7, S8, S9, S10, S11, S12, S13, S14, S15, S16, S17, opv, opvs, eget, env0, setD, lenStr, lenSl, isNilP, isNilS, putAt, if_true, if_false, reduceCtorEq, Nat.reduceLeDiff, Nat.reduceEqDiff, Nat.reduceSub, Nat.reduceMul, Nat.reduceAdd]
  refine call_bor (fun σ => eqGateRule a2.ts σ h2 (by omega)) rfl ⟨_, _, rfl, sees_agg p3 rfl (by simp), _, _, rfl, sees_agg p6 rfl (by simp), rfl⟩ ?_
  simp -implicitDefEqProofs only [uncV, GateAct.vs, one_cells e1, e1, one_cells e2, e2, e3x0, e3x1, e3x2, e3x3, one_cells e4, e4, one_cells e5, e5, ne_self, beq_self_eq_true, S0, S1, S2, S3, S4, S5, S6, S7, S8, S9, S10, S11, S12, S13, S14, S15, S16, S17, opv, opvs, eget, env0, setD, lenStr, lenSl, isNilP, isNilS, putAt, if_true, if_false, reduceCtorEq, Nat.reduceLeDiff, Nat.reduceEqDiff, Nat.reduceSub, Nat.reduceMul, Nat.reduceAdd]
  first | exact fin | exact fin0
end Go.Proofs.YtcjchimenfadkaaDoor.LGateUncovered
