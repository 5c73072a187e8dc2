/- FnExactGateTurned: what the law's code does: it returns true. Conditions: none. -/
import Derived.Test.YtcjchimenfadkaaDoorGateTrnI
set_option linter.unusedSimpArgs false
set_option linter.unusedVariables false
set_option linter.defProp false
open Go Go.Ab
set_option maxHeartbeats 4000000
namespace Go.Proofs.YtcjchimenfadkaaDoor.LGateTurned
open Go.Proofs.YtcjchimenfadkaaDoor.W
theorem list7y {l : List V} (h : l.length = 7) : ∃ u0 u1 u2 u3 u4 u5 u6, l = [u0, u1, u2, u3, u4, u5, u6] := by
  match l, h with
  | [u0, u1, u2, u3, u4, u5, u6], _ => exact ⟨u0, u1, u2, u3, u4, u5, u6, rfl⟩
def c_laws_FnExactGateTurned : C := (.seq (.ops [⟨(some 4), none, (.box (.t 1))⟩, ⟨(some 5), none, (.box (.t 2))⟩, ⟨(some 6), none, (.mv (.c (.t (.bool false))))⟩]) (.seq (.ops [⟨(some 7), none, (.mv (.c (.t (.int .i64 1048576))))⟩]) (.seq (.ops [⟨(some 15), none, (.mv (.t 0))⟩, ⟨(some 16), none, (.mv (.t 7))⟩, ⟨(some 17), none, (.call (.c (.fn (.func 19) [])) [(.t 15), (.t 16)])⟩, ⟨(some 7), none, (.mv (.t 17))⟩]) (.seq (.seq (.ops [⟨(some 18), none, (.mv (.t 7))⟩, ⟨(some 19), none, (.bin .lss (.t 18) (.c (.t (.int .i64 0))))⟩]) (.cond (.t 19) (.seq (.ops [⟨(some 6), none, (.mv (.c (.t (.bool true))))⟩]) .ret) .skip)) (.seq (.ops [⟨(some 20), none, (.load (some 7) (.t 4))⟩, ⟨(some 21), none, (.mv (.t 7))⟩, ⟨(some 22), none, (.call (.c (.fn (.func 20) [])) [(.t 20), (.t 21)])⟩, ⟨(some 7), none, (.mv (.t 22))⟩]) (.seq (.seq (.ops [⟨(some 23), none, (.mv (.t 7))⟩, ⟨(some 24), none, (.bin .lss (.t 23) (.c (.t (.int .i64 0))))⟩]) (.cond (.t 24) (.seq (.ops [⟨(some 6), none, (.mv (.c (.t (.bool true))))⟩]) .ret) .skip)) (.seq (.ops [⟨(some 25), none, (.load (some 7) (.t 5))⟩, ⟨(some 26), none, (.mv (.t 7))⟩, ⟨(some 27), none, (.call (.c (.fn (.func 20) [])) [(.t 25), (.t 26)])⟩, ⟨(some 7), none, (.mv (.t 27))⟩]) (.seq (.seq (.ops [⟨(some 28), none, (.mv (.t 7))⟩, ⟨(some 29), none, (.bin .lss (.t 28) (.c (.t (.int .i64 0))))⟩]) (.cond (.t 29) (.seq (.ops [⟨(some 6), none, (.mv (.c (.t (.bool true))))⟩]) .ret) .skip)) (.seq (.drawn [(.mk 0 false ⟨(some 31), none, (.mv (.t 0))⟩ []), (.mk 2 false ⟨(some 33), none, (.load (some 7) (.t 4))⟩ []), (.mk 4 false ⟨(some 35), none, (.load (some 7) (.t 5))⟩ []), (.mk 1 true ⟨(some 32), none, (.call (.c (.fn (.func 22) [])) [(.t 31)])⟩ [⟨(some 33), none, (.load (some 7) (.t 4))⟩, ⟨(some 35), none, (.load (some 7) (.t 5))⟩]), (.mk 3 true ⟨(some 34), none, (.call (.c (.fn (.func 23) [])) [(.t 33)])⟩ [⟨(some 35), none, (.load (some 7) (.t 5))⟩]), (.mk 5 false ⟨(some 36), none, (.call (.c (.fn (.func 23) [])) [(.t 35)])⟩ []), (.mk 6 false ⟨(some 37), none, (.call (.c (.fn (.func 27) [])) [(.t 32), (.t 34), (.t 36)])⟩ []), (.mk 7 false ⟨(some 30), none, (.mv (.t 37))⟩ []), (.mk 8 false ⟨(some 38), none, (.extract (.t 30) 0)⟩ []), (.mk 9 false ⟨(some 39), none, (.extract (.t 30) 1)⟩ []), (.mk 10 false ⟨(some 8), none, (.mv (.t 38))⟩ []), (.mk 11 false ⟨(some 9), none, (.mv (.t 39))⟩ [])]) (.seq (.ops [⟨(some 40), none, (.mv (.t 0))⟩, ⟨(some 41), none, (.call (.c (.fn (.func 22) [])) [(.t 40)])⟩, ⟨(some 10), none, (.mv (.t 41))⟩]) (.seq (.ops [⟨(some 42), none, (.load (some 7) (.t 4))⟩, ⟨(some 43), none, (.call (.c (.fn (.func 23) [])) [(.t 42)])⟩, ⟨(some 11), none, (.new [(.t (.str [])), (.t (.str [])), (.t (.str [])), .nils, (.t (.bool false)), .nils, (.t (.int .i64 0))])⟩, ⟨none, none, (.store 7 (.t 11) (.t 43))⟩]) (.seq (.ops [⟨(some 44), none, (.load (some 7) (.t 5))⟩, ⟨(some 45), none, (.call (.c (.fn (.func 23) [])) [(.t 44)])⟩, ⟨(some 12), none, (.new [(.t (.str [])), (.t (.str [])), (.t (.str [])), .nils, (.t (.bool false)), .nils, (.t (.int .i64 0))])⟩, ⟨none, none, (.store 7 (.t 12) (.t 45))⟩]) (.seq (.ops [⟨(some 47), none, (.mv (.t 10))⟩, ⟨(some 48), none, (.load (some 7) (.t 11))⟩, ⟨(some 49), none, (.load (some 7) (.t 12))⟩, ⟨(some 50), none, (.call (.c (.fn (.func 28) [])) [(.t 47), (.t 48), (.t 49)])⟩, ⟨(some 46), none, (.mv (.t 50))⟩, ⟨(some 51), none, (.extract (.t 46) 0)⟩, ⟨(some 52), none, (.extract (.t 46) 1)⟩, ⟨(some 13), none, (.mv (.t 51))⟩, ⟨(some 14), none, (.mv (.t 52))⟩]) (.seq (.seq (.ops [⟨(some 53), none, (.mv (.t 13))⟩, ⟨(some 54), none, (.mv (.t 8))⟩, ⟨(some 55), none, (.bin .neq (.t 53) (.t 54))⟩, ⟨(some 56), none, (.mv (.t 55))⟩, ⟨(some 57), (some ⟨56, false⟩), (.mv (.t 14))⟩, ⟨(some 58), (some ⟨56, false⟩), (.mv (.t 9))⟩, ⟨(some 59), (some ⟨56, false⟩), (.bin .neq (.t 57) (.t 58))⟩, ⟨(some 60), none, (.pick (.t 56) (.c (.t (.bool true))) (.t 59))⟩]) (.cond (.t 60) (.seq (.ops [⟨(some 6), none, (.mv (.c (.t (.bool false))))⟩]) .ret) .skip)) (.seq (.seq (.ops [⟨(some 61), none, (.mv (.t 10))⟩, ⟨(some 62), none, (.mv (.t 0))⟩, ⟨(some 63), none, (.call (.c (.fn (.func 22) [])) [(.t 62)])⟩, ⟨(some 64), none, (.call (.c (.fn (.func 25) [])) [(.t 61), (.t 63)])⟩, ⟨(some 65), none, (.un .not (.t 64))⟩]) (.cond (.t 65) (.seq (.ops [⟨(some 6), none, (.mv (.c (.t (.bool false))))⟩]) .ret) .skip)) (.seq (.seq (.drawn [(.mk 0 false ⟨(some 66), none, (.load (some 7) (.t 11))⟩ []), (.mk 1 false ⟨(some 67), none, (.load (some 7) (.t 4))⟩ []), (.mk 2 true ⟨(some 68), none, (.call (.c (.fn (.func 23) [])) [(.t 67)])⟩ [⟨(some 66), none, (.load (some 7) (.t 11))⟩]), (.mk 3 false ⟨(some 69), none, (.call (.c (.fn (.func 26) [])) [(.t 66), (.t 68)])⟩ []), (.mk 4 false ⟨(some 70), none, (.un .not (.t 69))⟩ [])]) (.cond (.t 70) (.seq (.ops [⟨(some 6), none, (.mv (.c (.t (.bool false))))⟩]) .ret) .skip)) (.seq (.seq (.drawn [(.mk 0 false ⟨(some 71), none, (.load (some 7) (.t 12))⟩ []), (.mk 1 false ⟨(some 72), none, (.load (some 7) (.t 5))⟩ []), (.mk 2 true ⟨(some 73), none, (.call (.c (.fn (.func 23) [])) [(.t 72)])⟩ [⟨(some 71), none, (.load (some 7) (.t 12))⟩]), (.mk 3 false ⟨(some 74), none, (.call (.c (.fn (.func 26) [])) [(.t 71), (.t 73)])⟩ []), (.mk 4 false ⟨(some 75), none, (.un .not (.t 74))⟩ [])]) (.cond (.t 75) (.seq (.ops [⟨(some 6), none, (.mv (.c (.t (.bool false))))⟩]) .ret) .skip)) (.seq (.ops [⟨(some 6), none, (.mv (.c (.t (.bool true))))⟩]) .ret))))))))))))))))))
theorem k_laws_FnExactGateTurned : comp Tryd.prog 76 (Tryd.f5.body.getD .skip) = some c_laws_FnExactGateTurned := by kernel_rfl

theorem lawGateTurned (a0 : List GateShape) (a1 : GateObject) (a2 : GateObject) (h0 : T.is (.sl 2 shGateShape) (tGateShapeS a0)) (q0 : (tGateShapeS a0).size ≤ 1048576 → GateShape.OkS a0) (h1 : T.isL shGateObject a1.ts) (q1 : T.sizeL a1.ts ≤ 1048576 → a1.Ok) (h2 : T.isL shGateObject a2.ts) (q2 : T.sizeL a2.ts ≤ 1048576 → a2.Ok) (σ : Store) (hg : ErrAt σ) : ACalls Tryd.prog 5 [.t (tGateShapeS a0), .agg a1.vs, .agg a2.vs] σ fun r _ => r = .t (.bool true) := by
  refine acalls_of Tryd.func5 (by decide +kernel) (code := Tryd.f5.body.getD .skip) (n := 76) (c := c_laws_FnExactGateTurned) (rs := [(.tmp 6)]) rfl rfl k_laws_FnExactGateTurned (by kernel_rfl) (by simp) (fun hσ => ?_)
  try simp only [maxLen] at *
  have fin : ∀ {τ : Store}, retV σ.length (fun r _ => r = .t (.bool true)) (σ ++ τ) (some [.t (.bool true)]) := ret_same rfl hσ rfl rfl
  have fin0 : retV σ.length (fun r _ => r = .t (.bool true)) σ (some [.t (.bool true)]) := ret_same0 rfl rfl
  simp -implicitDefEqProofs only [c_laws_FnExactGateTurned, GateObject.vs, tGateShapeS, List.length_map, S0, S1, S2, S3, S4, S5, S6, S7, S8, S9, S10, S11, S12, S13, S14, S15, S16, S17, opv, opvs, eget, env0, setD, lenStr, lenSl, isNilP, isNilS, putAt, if_true, if_false, reduceCtorEq, Nat.reduceLeDiff, Nat.reduceEqDiff, Nat.reduceSub, Nat.reduceMul, Nat.reduceAdd]
  refine call_by (by rw [List.append_nil]; exact szGateShapeS (tGateShapeS a0) 1048576 _ h0 (by omega) (by omega)) ?_
  rintro r σ' ⟨⟨m1, rfl, hm1, hs1⟩, rfl⟩
  simp -implicitDefEqProofs only [turnV, ne_self, beq_self_eq_true, S0, S1, S2, S3, S4, S5, S6, S7, S8, S9, S10, S11, S12, S13, S14, S15, S16, S17, opv, opvs, eget, env0, setD, lenStr, lenSl, isNilP, isNilS, putAt, if_true, if_false, reduceCtorEq, Nat.reduceLeDiff, Nat.reduceEqDiff, Nat.reduceSub, Nat.reduceMul, Nat.reduceAdd]
  refine cond_split (fun h => ?_) (fun h => ?_)
  · simp -implicitDefEqProofs only [S0, S1, S2, S3, S4, S5, S6, S7, S8, S9, S10, S11, S12, S13, S14, S15, S16, S17, opv, opvs, eget, env0, setD, lenStr, lenSl, isNilP, isNilS, putAt, if_true, if_false, reduceCtorEq, Nat.reduceLeDiff, Nat.reduceEqDiff, Nat.reduceSub, Nat.reduceMul, Nat.reduceAdd]
    first | exact fin | exact fin0
  simp only [decide_eq_false_iff_not, Int.not_lt] at h
  replace hs1 := hs1 h
  simp -implicitDefEqProofs only [turnV, ne_self, beq_self_eq_true, S0, S1, S2, S3, S4, S5, S6, S7, S8, S9, S10, S11, S12, S13, S14, S15, S16, S17, opv, opvs, eget, env0, setD, lenStr, lenSl, isNilP, isNilS, putAt, if_true, if_false, reduceCtorEq, Nat.reduceLeDiff, Nat.reduceEqDiff, Nat.reduceSub, Nat.reduceMul, Nat.reduceAdd]
  refine call_by (by rw [List.append_nil]; exact szGateObject a1.ts m1 _ h1 (by omega) (by omega)) ?_
  rintro r σ' ⟨⟨m2, rfl, hm2, hs2⟩, rfl⟩
  simp -implicitDefEqProofs only [turnV, ne_self, beq_self_eq_true, S0, S1, S2, S3, S4, S5, S6, S7, S8, S9, S10, S11, S12, S13, S14, S15, S16, S17, opv, opvs, eget, env0, setD, lenStr, lenSl, isNilP, isNilS, putAt, if_true, if_false, reduceCtorEq, Nat.reduceLeDiff, Nat.reduceEqDiff, Nat.reduceSub, Nat.reduceMul, Nat.reduceAdd]
  refine cond_split (fun h => ?_) (fun h => ?_)
  · simp -implicitDefEqProofs only [S0, S1, S2, S3, S4, S5, S6, S7, S8, S9, S10, S11, S12, S13, S14, S15, S16, S17, opv, opvs, eget, env0, setD, lenStr, lenSl, isNilP, isNilS, putAt, if_true, if_false, reduceCtorEq, Nat.reduceLeDiff, Nat.reduceEqDiff, Nat.reduceSub, Nat.reduceMul, Nat.reduceAdd]
    first | exact fin | exact fin0
  simp only [decide_eq_false_iff_not, Int.not_lt] at h
  replace hs2 := hs2 h
  simp -implicitDefEqProofs only [turnV, ne_self, beq_self_eq_true, S0, S1, S2, S3, S4, S5, S6, S7, S8, S9, S10, S11, S12, S13, S14, S15, S16, S17, opv, opvs, eget, env0, setD, lenStr, lenSl, isNilP, isNilS, putAt, if_true, if_false, reduceCtorEq, Nat.reduceLeDiff, Nat.reduceEqDiff, Nat.reduceSub, Nat.reduceMul, Nat.reduceAdd]
  refine call_by (by rw [List.append_nil]; exact szGateObject a2.ts m2 _ h2 (by omega) (by omega)) ?_
  rintro r σ' ⟨⟨m3, rfl, hm3, hs3⟩, rfl⟩
  simp -implicitDefEqProofs only [turnV, ne_self, beq_self_eq_true, S0, S1, S2, S3, S4, S5, S6, S7, S8, S9, S10, S11, S12, S13, S14, S15, S16, S17, opv, opvs, eget, env0, setD, lenStr, lenSl, isNilP, isNilS, putAt, if_true, if_false, reduceCtorEq, Nat.reduceLeDiff, Nat.reduceEqDiff, Nat.reduceSub, Nat.reduceMul, Nat.reduceAdd]
  refine cond_split (fun h => ?_) (fun h => ?_)
  · simp -implicitDefEqProofs only [S0, S1, S2, S3, S4, S5, S6, S7, S8, S9, S10, S11, S12, S13, S14, S15, S16, S17, opv, opvs, eget, env0, setD, lenStr, lenSl, isNilP, isNilS, putAt, if_true, if_false, reduceCtorEq, Nat.reduceLeDiff, Nat.reduceEqDiff, Nat.reduceSub, Nat.reduceMul, Nat.reduceAdd]
    first | exact fin | exact fin0
  simp only [decide_eq_false_iff_not, Int.not_lt] at h
  replace hs3 := hs3 h
  simp -implicitDefEqProofs only [turnV, ne_self, beq_self_eq_true, S0, S1, S2, S3, S4, S5, S6, S7, S8, S9, S10, S11, S12, S13, S14, S15, S16, S17, opv, opvs, eget, env0, setD, lenStr, lenSl, isNilP, isNilS, putAt, if_true, if_false, reduceCtorEq, Nat.reduceLeDiff, Nat.reduceEqDiff, Nat.reduceSub, Nat.reduceMul, Nat.reduceAdd]
  have o0 := q0 (by omega)
  have o1 := q1 (by omega)
  have o2 := q2 (by omega)
  refine call_by (by rw [List.append_nil]; exact toGateShapeS (tGateShapeS a0) _ h0 (by omega)) ?_
  rintro u1 σ' ⟨τ1, j1, rfl, p1, w1⟩
  clear w1
  have e1 := p1.one
  simp -implicitDefEqProofs only [turnV, one_cells e1, e1, ne_self, beq_self_eq_true, S0, S1, S2, S3, S4, S5, S6, S7, S8, S9, S10, S11, S12, S13, S14, S15, S16, S17, opv, opvs, eget, env0, setD, lenStr, lenSl, isNilP, isNilS, putAt, if_true, if_false, reduceCtorEq, Nat.reduceLeDiff, Nat.reduceEqDiff, Nat.reduceSub, Nat.reduceMul, Nat.reduceAdd]
  refine call_by (by rw [List.append_nil]; exact toGateObject a1.ts _ h1 (by omega)) ?_
  rintro r σ' ⟨u2, τ2, j2, rfl, rfl, p2, w2⟩
  clear w2
  simp -implicitDefEqProofs only [turnV, one_cells e1, e1, ne_self, beq_self_eq_true, S0, S1, S2, S3, S4, S5, S6, S7, S8, S9, S10, S11, S12, S13, S14, S15, S16, S17, opv, opvs, eget, env0, setD, lenStr, lenSl, isNilP, isNilS, putAt, if_true, if_false, reduceCtorEq, Nat.reduceLeDiff, Nat.reduceEqDiff, Nat.reduceSub, Nat.reduceMul, Nat.reduceAdd]
  refine call_by (by rw [List.append_nil]; exact toGateObject a2.ts _ h2 (by omega)) ?_
  rintro r σ' ⟨u3, τ3, j3, rfl, rfl, p3, w3⟩
  clear w3
  simp -implicitDefEqProofs only [turnV, one_cells e1, e1, ne_self, beq_self_eq_true, S0, S1, S2, S3, S4, S5, S6, S7, S8, S9, S10, S11, S12, S13, S14, S15, S16, S17, opv, opvs, eget, env0, setD, lenStr, lenSl, isNilP, isNilS, putAt, if_true, if_false, reduceCtorEq, Nat.reduceLeDiff, Nat.reduceEqDiff, Nat.reduceSub, Nat.reduceMul, Nat.reduceAdd]
  refine call_bor (fun σ => spec_GateTurned a0 o0 a1 o1 a2 o2 σ) rfl ⟨_, _, rfl, sees_lst p1 rfl (by simp), _, _, rfl, sees_agg p2 rfl (by simp), _, _, rfl, sees_agg p3 rfl (by simp), rfl⟩ ?_
  simp -implicitDefEqProofs only [turnV, one_cells e1, e1, ne_self, beq_self_eq_true, S0, S1, S2, S3, S4, S5, S6, S7, S8, S9, S10, S11, S12, S13, S14, S15, S16, S17, opv, opvs, eget, env0, setD, lenStr, lenSl, isNilP, isNilS, putAt, if_true, if_false, reduceCtorEq, Nat.reduceLeDiff, Nat.reduceEqDiff, Nat.reduceSub, Nat.reduceMul, Nat.reduceAdd]
  refine call_by (by rw [List.append_nil]; exact toGateShapeS (tGateShapeS a0) _ h0 (by omega)) ?_
  rintro u4 σ' ⟨τ4, j4, rfl, p4, w4⟩
  clear w4
  have e4 := p4.one
  simp -implicitDefEqProofs only [turnV, one_cells e1, e1, one_cells e4, e4, ne_self, beq_self_eq_true, S0, S1, S2, S3, S4, S5, S6, S7, S8, S9, S10, S11, S12, S13, S14, S15, S16, S17, opv, opvs, eget, env0, setD, lenStr, lenSl, isNilP, isNilS, putAt, if_true, if_false, reduceCtorEq, Nat.reduceLeDiff, Nat.reduceEqDiff, Nat.reduceSub, Nat.reduceMul, Nat.reduceAdd]
  refine call_by (by rw [List.append_nil]; exact toGateObject a1.ts _ h1 (by omega)) ?_
  rintro r σ' ⟨u5, τ5, j5, rfl, rfl, p5, w5⟩
  clear w5
  obtain ⟨v5x0, v5x1, v5x2, v5x3, v5x4, v5x5, v5x6, rfl⟩ : ∃ v5x0 v5x1 v5x2 v5x3 v5x4 v5x5 v5x6, u5 = [v5x0, v5x1, v5x2, v5x3, v5x4, v5x5, v5x6] := list7y p5.len
  have e5 := p5.ones
  simp only [List.all_cons, List.all_nil, Bool.and_eq_true, and_true] at e5
  obtain ⟨e5x0, e5x1, e5x2, e5x3, e5x4, e5x5, e5x6⟩ := e5
  simp -implicitDefEqProofs only [turnV, one_cells e1, e1, one_cells e4, e4, e5x0, e5x1, e5x2, e5x3, e5x4, e5x5, e5x6, ne_self, beq_self_eq_true, S0, S1, S2, S3, S4, S5, S6, S7, S8, S9, S10, S11, S12, S13, S14, S15, S16, S17, opv, opvs, eget, env0, setD, lenStr, lenSl, isNilP, isNilS, putAt, if_true, if_false, reduceCtorEq, Nat.reduceLeDiff, Nat.reduceEqDiff, Nat.reduceSub, Nat.reduceMul, Nat.reduceAdd]
  refine call_by (by rw [List.append_nil]; exact toGateObject a2.ts _ h2 (by omega)) ?_
  rintro r σ' ⟨u6, τ6, j6, rfl, rfl, p6, w6⟩
  clear w6
  obtain ⟨v6x0, v6x1, v6x2, v6x3, v6x4, v6x5, v6x6, rfl⟩ : ∃ v6x0 v6x1 v6x2 v6x3 v6x4 v6x5 v6x6, u6 = [v6x0, v6x1, v6x2, v6x3, v6x4, v6x5, v6x6] := list7y p6.len
  have e6 := p6.ones
  simp only [List.all_cons, List.all_nil, Bool.and_eq_true, and_true] at e6
  obtain ⟨e6x0, e6x1, e6x2, e6x3, e6x4, e6x5, e6x6⟩ := e6
  simp -implicitDefEqProofs only [turnV, one_cells e1, e1, one_cells e4, e4, e5x0, e5x1, e5x2, e5x3, e5x4, e5x5, e5x6, e6x0, e6x1, e6x2, e6x3, e6x4, e6x5, e6x6, ne_self, beq_self_eq_true, S0, S1, S2, S3, S4, S5, S6, S7, S8, S9, S10, S11, S12, S13, S14, S15, S16, S17, opv, opvs, eget, env0, setD, lenStr, lenSl, isNilP, isNilS, putAt, if_true, if_false, reduceCtorEq, Nat.reduceLeDiff, Nat.reduceEqDiff, Nat.reduceSub, Nat.reduceMul, Nat.reduceAdd]
  refine call_borG (C := ErrAt) (fun σ h => h.husk) (by repeat' (first | exact hg | refine VarAt.app ?_ _)) (fun σ h => impl_GateTurned a0 o0 a1 o1 a2 o2 σ h) rfl ⟨_, _, rfl, sees_lst p4 rfl (by simp), _, _, rfl, sees_agg p5 rfl (by simp), _, _, rfl, sees_agg p6 rfl (by simp), rfl⟩ ?_
  simp -implicitDefEqProofs only [turnV, one_cells e1, e1, one_cells e4, e4, e5x0, e5x1, e5x2, e5x3, e5x4, e5x5, e5x6, e6x0, e6x1, e6x2, e6x3, e6x4, e6x5, e6x6, ne_self, beq_self_eq_true, S0, S1, S2, S3, S4, S5, S6, S7, S8, S9, S10, S11, S12, S13, S14, S15, S16, S17, opv, opvs, eget, env0, setD, lenStr, lenSl, isNilP, isNilS, putAt, if_true, if_false, reduceCtorEq, Nat.reduceLeDiff, Nat.reduceEqDiff, Nat.reduceSub, Nat.reduceMul, Nat.reduceAdd]
  refine call_by (by rw [List.append_nil]; exact toGateShapeS (tGateShapeS a0) _ h0 (by omega)) ?_
  rintro u7 σ' ⟨τ7, j7, rfl, p7, w7⟩
  clear w7
  have e7 := p7.one
  simp -implicitDefEqProofs only [turnV, one_cells e1, e1, one_cells e4, e4, e5x0, e5x1, e5x2, e5x3, e5x4, e5x5, e5x6, e6x0, e6x1, e6x2, e6x3, e6x4, e6x5, e6x6, one_cells e7, e7, ne_self, beq_self_eq_true, S0, S1, S2, S3, S4, S5, S6, S7, S8, S9, S10, S11, S12, S13, S14, S15, S16, S17, opv, opvs, eget, env0, setD, lenStr, lenSl, isNilP, isNilS, putAt, if_true, if_false, reduceCtorEq, Nat.reduceLeDiff, Nat.reduceEqDiff, Nat.reduceSub, Nat.reduceMul, Nat.reduceAdd]
  refine call_bor (fun σ => eqGateShapeS (tGateShapeS a0) σ h0 (by omega)) rfl ⟨_, _, rfl, sees_lst p4 rfl (by simp), _, _, rfl, sees_lst p7 rfl (by simp), rfl⟩ ?_
  simp -implicitDefEqProofs only [turnV, one_cells e1, e1, one_cells e4, e4, e5x0, e5x1, e5x2, e5x3, e5x4, e5x5, e5x6, e6x0, e6x1, e6x2, e6x3, e6x4, e6x5, e6x6, one_cells e7, e7, ne_self, beq_self_eq_true, S0, S1, S2, S3, S4, S5, S6, S7, S8, S9, S10, S11, S12, S13, S14, S15, S16, S17, opv, opvs, eget, env0, setD, lenStr, lenSl, isNilP, isNilS, putAt, if_true, if_false, reduceCtorEq, Nat.reduceLeDiff, Nat.reduceEqDiff, Nat.reduceSub, Nat.reduceMul, Nat.reduceAdd]
  refine call_by (by rw [List.append_nil]; exact toGateObject a1.ts _ h1 (by omega)) ?_
  rintro r σ' ⟨u8, τ8, j8, rfl, rfl, p8, w8⟩
  clear w8
  simp -implicitDefEqProofs only [turnV, one_cells e1, e1, one_cells e4, e4, e5x0, e5x1, e5x2, e5x3, e5x4, e5x5, e5x6, e6x0, e6x1, e6x2, e6x3, e6x4, e6x5, e6x6, one_cells e7, e7, ne_self, beq_self_eq_true, S0, S1, S2, S3, S4, S5, S6, S7, S8, S9, S10, S11, S12, S13, S14, S15, S16, S17, opv, opvs, eget, env0, setD, lenStr, lenSl, isNilP, isNilS, putAt, if_true, if_false, reduceCtorEq, Nat.reduceLeDiff, Nat.reduceEqDiff, Nat.reduceSub, Nat.reduceMul, Nat.reduceAdd]
  refine call_bor (fun σ => eqGateObject a1.ts σ h1 (by omega)) rfl ⟨_, _, rfl, sees_agg p5 rfl (by simp), _, _, rfl, sees_agg p8 rfl (by simp), rfl⟩ ?_
  simp -implicitDefEqProofs only [turnV, one_cells e1, e1, one_cells e4, e4, e5x0, e5x1, e5x2, e5x3, e5x4, e5x5, e5x6, e6x0, e6x1, e6x2, e6x3, e6x4, e6x5, e6x6, one_cells e7, e7, ne_self, beq_self_eq_true, S0, S1, S2, S3, S4, S5, S6, S7, S8, S9, S10, S11, S12, S13, S14, S15, S16, S17, opv, opvs, eget, env0, setD, lenStr, lenSl, isNilP, isNilS, putAt, if_true, if_false, reduceCtorEq, Nat.reduceLeDiff, Nat.reduceEqDiff, Nat.reduceSub, Nat.reduceMul, Nat.reduceAdd]
  refine call_by (by rw [List.append_nil]; exact toGateObject a2.ts _ h2 (by omega)) ?_
  rintro r σ' ⟨u9, τ9, j9, rfl, rfl, p9, w9⟩
  clear w9
  simp -implicitDefEqProofs only [turnV, one_cells e1, e1, one_cells e4, e4, e5x0, e5x1, e5x2, e5x3, e5x4, e5x5, e5x6, e6x0, e6x1, e6x2, e6x3, e6x4, e6x5, e6x6, one_cells e7, e7, ne_self, beq_self_eq_true, S0, S1, S2, S3, S4, S5, S6, S7, S8, S9, S10, S11, S12, S13, S14, S15, S16, S17, opv, opvs, eget, env0, setD, lenStr, lenSl, isNilP, isNilS, putAt, if_true, if_false, reduceCtorEq, Nat.reduceLeDiff, Nat.reduceEqDiff, Nat.reduceSub, Nat.reduceMul, Nat.reduceAdd]
  refine call_bor (fun σ => eqGateObject a2.ts σ h2 (by omega)) rfl ⟨_, _, rfl, sees_agg p6 rfl (by simp), _, _, rfl, sees_agg p9 rfl (by simp), rfl⟩ ?_
  simp -implicitDefEqProofs only [turnV, one_cells e1, e1, one_cells e4, e4, e5x0, e5x1, e5x2, e5x3, e5x4, e5x5, e5x6, e6x0, e6x1, e6x2, e6x3, e6x4, e6x5, e6x6, one_cells e7, e7, ne_self, beq_self_eq_true, S0, S1, S2, S3, S4, S5, S6, S7, S8, S9, S10, S11, S12, S13, S14, S15, S16, S17, opv, opvs, eget, env0, setD, lenStr, lenSl, isNilP, isNilS, putAt, if_true, if_false, reduceCtorEq, Nat.reduceLeDiff, Nat.reduceEqDiff, Nat.reduceSub, Nat.reduceMul, Nat.reduceAdd]
  first | exact fin | exact fin0
end Go.Proofs.YtcjchimenfadkaaDoor.LGateTurned
