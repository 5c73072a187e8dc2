/- FnExactGateWeighs: what the law's code does: it returns true. Conditions: none. -/
import Derived.Test.YtgdmgoidfglobaaGateWeighs
set_option linter.unusedSimpArgs false
set_option linter.unusedVariables false
set_option linter.defProp false
open Go Go.Ab
set_option maxHeartbeats 4000000
namespace Go.Proofs.Ytgdmgoidfglobaa.LGateWeighs
open Go.Proofs.Ytgdmgoidfglobaa.W
theorem list3y {l : List V} (h : l.length = 3) : ∃ u0 u1 u2, l = [u0, u1, u2] := by
  match l, h with
  | [u0, u1, u2], _ => exact ⟨u0, u1, u2, rfl⟩
theorem list7y {l : List V} (h : l.length = 7) : ∃ u0 u1 u2 u3 u4 u5 u6, l = [u0, u1, u2, u3, u4, u5, u6] := by
  match l, h with
  | [u0, u1, u2, u3, u4, u5, u6], _ => exact ⟨u0, u1, u2, u3, u4, u5, u6, rfl⟩
def c_laws_FnExactGateWeighs : C := (.seq (.ops [⟨(some 3), none, (.box (.t 0))⟩, ⟨(some 4), none, (.box (.t 1))⟩, ⟨(some 6), none, (.mv (.c (.t (.bool false))))⟩]) (.seq (.seq (.ops [⟨(some 12), none, (.mv (.t 2))⟩, ⟨(some 13), none, (.len true (.t 12))⟩, ⟨(some 14), none, (.bin .gtr (.t 13) (.c (.t (.int .i64 1048576))))⟩]) (.cond (.t 14) (.seq (.ops [⟨(some 6), none, (.mv (.c (.t (.bool true))))⟩]) .ret) .skip)) (.seq (.ops [⟨(some 7), none, (.mv (.c (.t (.int .i64 1048576))))⟩]) (.seq (.ops [⟨(some 15), none, (.load (some 3) (.t 3))⟩, ⟨(some 16), none, (.mv (.t 7))⟩, ⟨(some 17), none, (.call (.c (.fn (.func 20) [])) [(.t 15), (.t 16)])⟩, ⟨(some 7), none, (.mv (.t 17))⟩]) (.seq (.seq (.ops [⟨(some 18), none, (.mv (.t 7))⟩, ⟨(some 19), none, (.bin .lss (.t 18) (.c (.t (.int .i64 0))))⟩]) (.cond (.t 19) (.seq (.ops [⟨(some 6), none, (.mv (.c (.t (.bool true))))⟩]) .ret) .skip)) (.seq (.ops [⟨(some 20), none, (.load (some 7) (.t 4))⟩, ⟨(some 21), none, (.mv (.t 7))⟩, ⟨(some 22), none, (.call (.c (.fn (.func 45) [])) [(.t 20), (.t 21)])⟩, ⟨(some 7), none, (.mv (.t 22))⟩]) (.seq (.seq (.ops [⟨(some 23), none, (.mv (.t 7))⟩, ⟨(some 24), none, (.bin .lss (.t 23) (.c (.t (.int .i64 0))))⟩]) (.cond (.t 24) (.seq (.ops [⟨(some 6), none, (.mv (.c (.t (.bool true))))⟩]) .ret) .skip)) (.seq (.drawn [(.mk 0 false ⟨(some 25), none, (.load (some 3) (.t 3))⟩ []), (.mk 2 false ⟨(some 27), none, (.load (some 7) (.t 4))⟩ []), (.mk 4 false ⟨(some 29), none, (.mv (.t 2))⟩ []), (.mk 1 true ⟨(some 26), none, (.call (.c (.fn (.func 23) [])) [(.t 25)])⟩ [⟨(some 27), none, (.load (some 7) (.t 4))⟩]), (.mk 3 false ⟨(some 28), none, (.call (.c (.fn (.func 47) [])) [(.t 27)])⟩ []), (.mk 5 false ⟨(some 30), none, (.call (.c (.fn (.func 46) [])) [(.t 26), (.t 28), (.t 29)])⟩ []), (.mk 6 false ⟨(some 8), none, (.mv (.t 30))⟩ [])]) (.seq (.ops [⟨(some 31), none, (.load (some 3) (.t 3))⟩, ⟨(some 32), none, (.call (.c (.fn (.func 23) [])) [(.t 31)])⟩, ⟨(some 9), none, (.new [.nils, .nils, .nils])⟩, ⟨none, none, (.store 3 (.t 9) (.t 32))⟩]) (.seq (.ops [⟨(some 33), none, (.load (some 7) (.t 4))⟩, ⟨(some 34), none, (.call (.c (.fn (.func 47) [])) [(.t 33)])⟩, ⟨(some 10), none, (.new [(.t (.str [])), (.t (.str [])), (.t (.str [])), .nils, (.t (.bool false)), .nils, (.t (.int .i64 0))])⟩, ⟨none, none, (.store 7 (.t 10) (.t 34))⟩]) (.seq (.ops [⟨(some 35), none, (.load (some 3) (.t 9))⟩, ⟨(some 36), none, (.load (some 7) (.t 10))⟩, ⟨(some 37), none, (.mv (.t 2))⟩, ⟨(some 38), none, (.call (.c (.fn (.func 48) [])) [(.t 35), (.t 36), (.t 37)])⟩, ⟨(some 11), none, (.mv (.t 38))⟩]) (.seq (.seq (.ops [⟨(some 39), none, (.mv (.t 11))⟩, ⟨(some 40), none, (.mv (.t 8))⟩, ⟨(some 41), none, (.bin .neq (.t 39) (.t 40))⟩]) (.cond (.t 41) (.seq (.ops [⟨(some 6), none, (.mv (.c (.t (.bool false))))⟩]) .ret) .skip)) (.seq (.seq (.drawn [(.mk 0 false ⟨(some 42), none, (.load (some 3) (.t 9))⟩ []), (.mk 1 false ⟨(some 43), none, (.load (some 3) (.t 3))⟩ []), (.mk 2 true ⟨(some 44), none, (.call (.c (.fn (.func 23) [])) [(.t 43)])⟩ [⟨(some 42), none, (.load (some 3) (.t 9))⟩]), (.mk 3 false ⟨(some 45), none, (.call (.c (.fn (.func 26) [])) [(.t 42), (.t 44)])⟩ []), (.mk 4 false ⟨(some 46), none, (.un .not (.t 45))⟩ [])]) (.cond (.t 46) (.seq (.ops [⟨(some 6), none, (.mv (.c (.t (.bool false))))⟩]) .ret) .skip)) (.seq (.seq (.drawn [(.mk 0 false ⟨(some 47), none, (.load (some 7) (.t 10))⟩ []), (.mk 1 false ⟨(some 48), none, (.load (some 7) (.t 4))⟩ []), (.mk 2 true ⟨(some 49), none, (.call (.c (.fn (.func 47) [])) [(.t 48)])⟩ [⟨(some 47), none, (.load (some 7) (.t 10))⟩]), (.mk 3 false ⟨(some 50), none, (.call (.c (.fn (.func 49) [])) [(.t 47), (.t 49)])⟩ []), (.mk 4 false ⟨(some 51), none, (.un .not (.t 50))⟩ [])]) (.cond (.t 51) (.seq (.ops [⟨(some 6), none, (.mv (.c (.t (.bool false))))⟩]) .ret) .skip)) (.seq (.ops [⟨(some 6), none, (.mv (.c (.t (.bool true))))⟩]) .ret)))))))))))))))
theorem k_laws_FnExactGateWeighs : comp Try.prog 52 (Try.f9.body.getD .skip) = some c_laws_FnExactGateWeighs := by kernel_rfl

theorem lawGateWeighs (a0 : GateLaw) (a1 : GateObject) (a2 : List UInt8) (h0 : T.isL shGateLaw a0.ts) (q0 : T.sizeL a0.ts ≤ 1048576 → a0.Ok) (h1 : T.isL shGateObject a1.ts) (q1 : T.sizeL a1.ts ≤ 1048576 → a1.Ok) (h2 : a2.length ≤ maxLen) (σ : Store) : ACalls Try.prog 9 [.agg a0.vs, .agg a1.vs, .t (.str a2)] σ fun r _ => r = .t (.bool true) := by
  refine acalls_of Try.func9 (by decide +kernel) (code := Try.f9.body.getD .skip) (n := 52) (c := c_laws_FnExactGateWeighs) (rs := [(.tmp 6)]) rfl rfl k_laws_FnExactGateWeighs (by kernel_rfl) (by simp) (fun hσ => ?_)
  try simp only [maxLen] at *
  have fin : ∀ {τ : Store}, retV σ.length (fun r _ => r = .t (.bool true)) (σ ++ τ) (some [.t (.bool true)]) := ret_same rfl hσ rfl rfl
  have fin0 : retV σ.length (fun r _ => r = .t (.bool true)) σ (some [.t (.bool true)]) := ret_same0 rfl rfl
  simp -implicitDefEqProofs only [c_laws_FnExactGateWeighs, GateLaw.vs, GateObject.vs, List.length_map, S0, S1, S2, S3, S4, S5, S6, S7, S8, S9, S10, S11, S12, S13, S14, S15, S16, S17, opv, opvs, eget, env0, setD, lenStr, lenSl, isNilP, isNilS, putAt, if_true, if_false, reduceCtorEq, Nat.reduceLeDiff, Nat.reduceEqDiff, Nat.reduceSub, Nat.reduceMul, Nat.reduceAdd]
  refine cond_split (fun g2 => ?_) (fun g2 => ?_)
  · simp -implicitDefEqProofs only [S0, S1, S2, S3, S4, S5, S6, S7, S8, S9, S10, S11, S12, S13, S14, S15, S16, S17, opv, opvs, eget, env0, setD, lenStr, lenSl, isNilP, isNilS, putAt, if_true, if_false, reduceCtorEq, Nat.reduceLeDiff, Nat.reduceEqDiff, Nat.reduceSub, Nat.reduceMul, Nat.reduceAdd]
    first | exact fin | exact fin0
  replace g2 : a2.length ≤ 1048576 := by simp at g2; omega
  simp -implicitDefEqProofs only [ne_self, beq_self_eq_true, S0, S1, S2, S3, S4, S5, S6, S7, S8, S9, S10, S11, S12, S13, S14, S15, S16, S17, opv, opvs, eget, env0, setD, lenStr, lenSl, isNilP, isNilS, putAt, if_true, if_false, reduceCtorEq, Nat.reduceLeDiff, Nat.reduceEqDiff, Nat.reduceSub, Nat.reduceMul, Nat.reduceAdd]
  refine call_by (by rw [List.append_nil]; exact szGateLaw a0.ts 1048576 _ h0 (by omega) (by omega)) ?_
  rintro r σ' ⟨⟨m1, rfl, hm1, hs1⟩, rfl⟩
  simp -implicitDefEqProofs only [ne_self, beq_self_eq_true, S0, S1, S2, S3, S4, S5, S6, S7, S8, S9, S10, S11, S12, S13, S14, S15, S16, S17, opv, opvs, eget, env0, setD, lenStr, lenSl, isNilP, isNilS, putAt, if_true, if_false, reduceCtorEq, Nat.reduceLeDiff, Nat.reduceEqDiff, Nat.reduceSub, Nat.reduceMul, Nat.reduceAdd]
  refine cond_split (fun h => ?_) (fun h => ?_)
  · simp -implicitDefEqProofs only [S0, S1, S2, S3, S4, S5, S6, S7, S8, S9, S10, S11, S12, S13, S14, S15, S16, S17, opv, opvs, eget, env0, setD, lenStr, lenSl, isNilP, isNilS, putAt, if_true, if_false, reduceCtorEq, Nat.reduceLeDiff, Nat.reduceEqDiff, Nat.reduceSub, Nat.reduceMul, Nat.reduceAdd]
    first | exact fin | exact fin0
  simp only [decide_eq_false_iff_not, Int.not_lt] at h
  replace hs1 := hs1 h
  simp -implicitDefEqProofs only [ne_self, beq_self_eq_true, S0, S1, S2, S3, S4, S5, S6, S7, S8, S9, S10, S11, S12, S13, S14, S15, S16, S17, opv, opvs, eget, env0, setD, lenStr, lenSl, isNilP, isNilS, putAt, if_true, if_false, reduceCtorEq, Nat.reduceLeDiff, Nat.reduceEqDiff, Nat.reduceSub, Nat.reduceMul, Nat.reduceAdd]
  refine call_by (by rw [List.append_nil]; exact szGateObject a1.ts m1 _ h1 (by omega) (by omega)) ?_
  rintro r σ' ⟨⟨m2, rfl, hm2, hs2⟩, rfl⟩
  simp -implicitDefEqProofs only [ne_self, beq_self_eq_true, S0, S1, S2, S3, S4, S5, S6, S7, S8, S9, S10, S11, S12, S13, S14, S15, S16, S17, opv, opvs, eget, env0, setD, lenStr, lenSl, isNilP, isNilS, putAt, if_true, if_false, reduceCtorEq, Nat.reduceLeDiff, Nat.reduceEqDiff, Nat.reduceSub, Nat.reduceMul, Nat.reduceAdd]
  refine cond_split (fun h => ?_) (fun h => ?_)
  · simp -implicitDefEqProofs only [S0, S1, S2, S3, S4, S5, S6, S7, S8, S9, S10, S11, S12, S13, S14, S15, S16, S17, opv, opvs, eget, env0, setD, lenStr, lenSl, isNilP, isNilS, putAt, if_true, if_false, reduceCtorEq, Nat.reduceLeDiff, Nat.reduceEqDiff, Nat.reduceSub, Nat.reduceMul, Nat.reduceAdd]
    first | exact fin | exact fin0
  simp only [decide_eq_false_iff_not, Int.not_lt] at h
  replace hs2 := hs2 h
  simp -implicitDefEqProofs only [ne_self, beq_self_eq_true, S0, S1, S2, S3, S4, S5, S6, S7, S8, S9, S10, S11, S12, S13, S14, S15, S16, S17, opv, opvs, eget, env0, setD, lenStr, lenSl, isNilP, isNilS, putAt, if_true, if_false, reduceCtorEq, Nat.reduceLeDiff, Nat.reduceEqDiff, Nat.reduceSub, Nat.reduceMul, Nat.reduceAdd]
  have o0 := q0 (by omega)
  have o1 := q1 (by omega)
  have o2 : a2.length ≤ 1048576 := by omega
  refine call_by (by rw [List.append_nil]; exact toGateLaw a0.ts _ h0 (by omega)) ?_
  rintro r σ' ⟨u1, τ1, j1, rfl, rfl, p1, w1⟩
  clear w1
  simp -implicitDefEqProofs only [ne_self, beq_self_eq_true, S0, S1, S2, S3, S4, S5, S6, S7, S8, S9, S10, S11, S12, S13, S14, S15, S16, S17, opv, opvs, eget, env0, setD, lenStr, lenSl, isNilP, isNilS, putAt, if_true, if_false, reduceCtorEq, Nat.reduceLeDiff, Nat.reduceEqDiff, Nat.reduceSub, Nat.reduceMul, Nat.reduceAdd]
  refine call_by (by rw [List.append_nil]; exact toGateObject a1.ts _ h1 (by omega)) ?_
  rintro r σ' ⟨u2, τ2, j2, rfl, rfl, p2, w2⟩
  clear w2
  simp -implicitDefEqProofs only [ne_self, beq_self_eq_true, S0, S1, S2, S3, S4, S5, S6, S7, S8, S9, S10, S11, S12, S13, S14, S15, S16, S17, opv, opvs, eget, env0, setD, lenStr, lenSl, isNilP, isNilS, putAt, if_true, if_false, reduceCtorEq, Nat.reduceLeDiff, Nat.reduceEqDiff, Nat.reduceSub, Nat.reduceMul, Nat.reduceAdd]
  refine call_bor (fun σ => spec_GateWeighs a0 o0 a1 o1 a2 o2 σ) rfl ⟨_, _, rfl, sees_agg p1 rfl (by simp), _, _, rfl, sees_agg p2 rfl (by simp), _, _, rfl, sees_one rfl, rfl⟩ ?_
  simp -implicitDefEqProofs only [ne_self, beq_self_eq_true, S0, S1, S2, S3, S4, S5, S6, S7, S8, S9, S10, S11, S12, S13, S14, S15, S16, S17, opv, opvs, eget, env0, setD, lenStr, lenSl, isNilP, isNilS, putAt, if_true, if_false, reduceCtorEq, Nat.reduceLeDiff, Nat.reduceEqDiff, Nat.reduceSub, Nat.reduceMul, Nat.reduceAdd]
  refine call_by (by rw [List.append_nil]; exact toGateLaw a0.ts _ h0 (by omega)) ?_
  rintro r σ' ⟨u3, τ3, j3, rfl, rfl, p3, w3⟩
  clear w3
  obtain ⟨v3x0, v3x1, v3x2, rfl⟩ : ∃ v3x0 v3x1 v3x2, u3 = [v3x0, v3x1, v3x2] := list3y p3.len
  have e3 := p3.ones
  simp only [List.all_cons, List.all_nil, Bool.and_eq_true, and_true] at e3
  obtain ⟨e3x0, e3x1, e3x2⟩ := e3
  simp -implicitDefEqProofs only [e3x0, e3x1, e3x2, ne_self, beq_self_eq_true, S0, S1, S2, S3, S4, S5, S6, S7, S8, S9, S10, S11, S12, S13, S14, S15, S16, S17, opv, opvs, eget, env0, setD, lenStr, lenSl, isNilP, isNilS, putAt, if_true, if_false, reduceCtorEq, Nat.reduceLeDiff, Nat.reduceEqDiff, Nat.reduceSub, Nat.reduceMul, Nat.reduceAdd]
  refine call_by (by rw [List.append_nil]; exact toGateObject a1.ts _ h1 (by omega)) ?_
  rintro r σ' ⟨u4, τ4, j4, rfl, rfl, p4, w4⟩
  clear w4
  obtain ⟨v4x0, v4x1, v4x2, v4x3, v4x4, v4x5, v4x6, rfl⟩ : ∃ v4x0 v4x1 v4x2 v4x3 v4x4 v4x5 v4x6, u4 = [v4x0, v4x1, v4x2, v4x3, v4x4, v4x5, v4x6] := list7y p4.len
  have e4 := p4.ones
  simp only [List.all_cons, List.all_nil, Bool.and_eq_true, and_true] at e4
  obtain ⟨e4x0, e4x1, e4x2, e4x3, e4x4, e4x5, e4x6⟩ := e4
  simp -implicitDefEqProofs only [e3x0, e3x1, e3x2, e4x0, e4x1, e4x2, e4x3, e4x4, e4x5, e4x6, ne_self, beq_self_eq_true, S0, S1, S2, S3, S4, S5, S6, S7, S8, S9, S10, S11, S12, S13, S14, S15, S16, S17, opv, opvs, eget, env0, setD, lenStr, lenSl, isNilP, isNilS, putAt, if_true, if_false, reduceCtorEq, Nat.reduceLeDiff, Nat.reduceEqDiff, Nat.reduceSub, Nat.reduceMul, Nat.reduceAdd]
  refine call_bor (fun σ => impl_GateWeighs a0 o0 a1 o1 a2 o2 σ) rfl ⟨_, _, rfl, sees_agg p3 rfl (by simp), _, _, rfl, sees_agg p4 rfl (by simp), _, _, rfl, sees_one rfl, rfl⟩ ?_
  simp -implicitDefEqProofs only [e3x0, e3x1, e3x2, e4x0, e4x1, e4x2, e4x3, e4x4, e4x5, e4x6, ne_self, beq_self_eq_true, S0, S1, S2, S3, S4, S5, S6, S7, S8, S9, S10, S11, S12, S13, S14, S15, S16, S17, opv, opvs, eget, env0, setD, lenStr, lenSl, isNilP, isNilS, putAt, if_true, if_false, reduceCtorEq, Nat.reduceLeDiff, Nat.reduceEqDiff, Nat.reduceSub, Nat.reduceMul, Nat.reduceAdd]
  refine call_by (by rw [List.append_nil]; exact toGateLaw a0.ts _ h0 (by omega)) ?_
  rintro r σ' ⟨u5, τ5, j5, rfl, rfl, p5, w5⟩
  clear w5
  simp -implicitDefEqProofs only [e3x0, e3x1, e3x2, e4x0, e4x1, e4x2, e4x3, e4x4, e4x5, e4x6, ne_self, beq_self_eq_true, S0, S1, S2, S3, S4, S5, S6, S7, S8, S9, S10, S11, S12, S13, S14, S15, S16, S17, opv, opvs, eget, env0, setD, lenStr, lenSl, isNilP, isNilS, putAt, if_true, if_false, reduceCtorEq, Nat.reduceLeDiff, Nat.reduceEqDiff, Nat.reduceSub, Nat.reduceMul, Nat.reduceAdd]
  refine call_bor (fun σ => eqGateLaw a0.ts σ h0 (by omega)) rfl ⟨_, _, rfl, sees_agg p3 rfl (by simp), _, _, rfl, sees_agg p5 rfl (by simp), rfl⟩ ?_
  simp -implicitDefEqProofs only [e3x0, e3x1, e3x2, e4x0, e4x1, e4x2, e4x3, e4x4, e4x5, e4x6, ne_self, beq_self_eq_true, S0, S1, S2, S3, S4, S5, S6, S7, S8, S9, S10, S11, S12, S13, S14, S15, S16, S17, opv, opvs, eget, env0, setD, lenStr, lenSl, isNilP, isNilS, putAt, if_true, if_false, reduceCtorEq, Nat.reduceLeDiff, Nat.reduceEqDiff, Nat.reduceSub, Nat.reduceMul, Nat.reduceAdd]
  refine call_by (by rw [List.append_nil]; exact toGateObject a1.ts _ h1 (by omega)) ?_
  rintro r σ' ⟨u6, τ6, j6, rfl, rfl, p6, w6⟩
  clear w6
  simp -implicitDefEqProofs only [e3x0, e3x1, e3x2, e4x0, e4x1, e4x2, e4x3, e4x4, e4x5, e4x6, ne_self, beq_self_eq_true, S0, S1, S2, S3, S4, S5, S6, S7, S8, S9, S10, S11, S12, S13, S14, S15, S16, S17, opv, opvs, eget, env0, setD, lenStr, lenSl, isNilP, isNilS, putAt, if_true, if_false, reduceCtorEq, Nat.reduceLeDiff, Nat.reduceEqDiff, Nat.reduceSub, Nat.reduceMul, Nat.reduceAdd]
  refine call_bor (fun σ => eqGateObject a1.ts σ h1 (by omega)) rfl ⟨_, _, rfl, sees_agg p4 rfl (by simp), _, _, rfl, sees_agg p6 rfl (by simp), rfl⟩ ?_
  simp -implicitDefEqProofs only [e3x0, e3x1, e3x2, e4x0, e4x1, e4x2, e4x3, e4x4, e4x5, e4x6, ne_self, beq_self_eq_true, S0, S1, S2, S3, S4, S5, S6, S7, S8, S9, S10, S11, S12, S13, S14, S15, S16, S17, opv, opvs, eget, env0, setD, lenStr, lenSl, isNilP, isNilS, putAt, if_true, if_false, reduceCtorEq, Nat.reduceLeDiff, Nat.reduceEqDiff, Nat.reduceSub, Nat.reduceMul, Nat.reduceAdd]
  first | exact fin | exact fin0
end Go.Proofs.Ytgdmgoidfglobaa.LGateWeighs
