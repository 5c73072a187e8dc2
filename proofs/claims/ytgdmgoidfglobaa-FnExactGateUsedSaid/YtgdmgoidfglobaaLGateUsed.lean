/- FnExactGateUsed: what the law's code does: it returns true. Conditions: none. -/
import Derived.Test.YtgdmgoidfglobaaGateUsed
set_option linter.unusedSimpArgs false
set_option linter.unusedVariables false
set_option linter.defProp false
open Go Go.Ab
set_option maxHeartbeats 4000000
namespace Go.Proofs.Ytgdmgoidfglobaa.LGateUsed
open Go.Proofs.Ytgdmgoidfglobaa.W
theorem list3y {l : List V} (h : l.length = 3) : ∃ u0 u1 u2, l = [u0, u1, u2] := by
  match l, h with
  | [u0, u1, u2], _ => exact ⟨u0, u1, u2, rfl⟩
theorem list7y {l : List V} (h : l.length = 7) : ∃ u0 u1 u2 u3 u4 u5 u6, l = [u0, u1, u2, u3, u4, u5, u6] := by
  match l, h with
  | [u0, u1, u2, u3, u4, u5, u6], _ => exact ⟨u0, u1, u2, u3, u4, u5, u6, rfl⟩
def c_laws_FnExactGateUsed : C := (.seq (.ops [⟨(some 4), none, (.box (.t 0))⟩, ⟨(some 5), none, (.box (.t 1))⟩, ⟨(some 8), none, (.mv (.c (.t (.bool false))))⟩]) (.seq (.seq (.ops [⟨(some 14), none, (.mv (.t 2))⟩, ⟨(some 15), none, (.len true (.t 14))⟩, ⟨(some 16), none, (.bin .gtr (.t 15) (.c (.t (.int .i64 1048576))))⟩]) (.cond (.t 16) (.seq (.ops [⟨(some 8), none, (.mv (.c (.t (.bool true))))⟩]) .ret) .skip)) (.seq (.seq (.ops [⟨(some 17), none, (.mv (.t 3))⟩, ⟨(some 18), none, (.len true (.t 17))⟩, ⟨(some 19), none, (.bin .gtr (.t 18) (.c (.t (.int .i64 1048576))))⟩]) (.cond (.t 19) (.seq (.ops [⟨(some 8), none, (.mv (.c (.t (.bool true))))⟩]) .ret) .skip)) (.seq (.ops [⟨(some 9), none, (.mv (.c (.t (.int .i64 1048576))))⟩]) (.seq (.ops [⟨(some 20), none, (.load (some 3) (.t 4))⟩, ⟨(some 21), none, (.mv (.t 9))⟩, ⟨(some 22), none, (.call (.c (.fn (.func 20) [])) [(.t 20), (.t 21)])⟩, ⟨(some 9), none, (.mv (.t 22))⟩]) (.seq (.seq (.ops [⟨(some 23), none, (.mv (.t 9))⟩, ⟨(some 24), none, (.bin .lss (.t 23) (.c (.t (.int .i64 0))))⟩]) (.cond (.t 24) (.seq (.ops [⟨(some 8), none, (.mv (.c (.t (.bool true))))⟩]) .ret) .skip)) (.seq (.ops [⟨(some 25), none, (.load (some 7) (.t 5))⟩, ⟨(some 26), none, (.mv (.t 9))⟩, ⟨(some 27), none, (.call (.c (.fn (.func 21) [])) [(.t 25), (.t 26)])⟩, ⟨(some 9), none, (.mv (.t 27))⟩]) (.seq (.seq (.ops [⟨(some 28), none, (.mv (.t 9))⟩, ⟨(some 29), none, (.bin .lss (.t 28) (.c (.t (.int .i64 0))))⟩]) (.cond (.t 29) (.seq (.ops [⟨(some 8), none, (.mv (.c (.t (.bool true))))⟩]) .ret) .skip)) (.seq (.drawn [(.mk 0 false ⟨(some 30), none, (.load (some 3) (.t 4))⟩ []), (.mk 2 false ⟨(some 32), none, (.load (some 7) (.t 5))⟩ []), (.mk 4 false ⟨(some 34), none, (.mv (.t 2))⟩ []), (.mk 5 false ⟨(some 35), none, (.mv (.t 3))⟩ []), (.mk 1 true ⟨(some 31), none, (.call (.c (.fn (.func 23) [])) [(.t 30)])⟩ [⟨(some 32), none, (.load (some 7) (.t 5))⟩]), (.mk 3 false ⟨(some 33), none, (.call (.c (.fn (.func 24) [])) [(.t 32)])⟩ []), (.mk 6 false ⟨(some 36), none, (.call (.c (.fn (.func 22) [])) [(.t 31), (.t 33), (.t 34), (.t 35)])⟩ []), (.mk 7 false ⟨(some 10), none, (.mv (.t 36))⟩ [])]) (.seq (.ops [⟨(some 37), none, (.load (some 3) (.t 4))⟩, ⟨(some 38), none, (.call (.c (.fn (.func 23) [])) [(.t 37)])⟩, ⟨(some 11), none, (.new [.nils, .nils, .nils])⟩, ⟨none, none, (.store 3 (.t 11) (.t 38))⟩]) (.seq (.ops [⟨(some 39), none, (.load (some 7) (.t 5))⟩, ⟨(some 40), none, (.call (.c (.fn (.func 24) [])) [(.t 39)])⟩, ⟨(some 12), none, (.new [(.t (.int .i64 0)), (.t (.int .i64 0)), (.t (.int .i64 0)), .nils, .nils, .nils, .nils])⟩, ⟨none, none, (.store 7 (.t 12) (.t 40))⟩]) (.seq (.ops [⟨(some 41), none, (.load (some 3) (.t 11))⟩, ⟨(some 42), none, (.load (some 7) (.t 12))⟩, ⟨(some 43), none, (.mv (.t 2))⟩, ⟨(some 44), none, (.mv (.t 3))⟩, ⟨(some 45), none, (.call (.c (.fn (.func 25) [])) [(.t 41), (.t 42), (.t 43), (.t 44)])⟩, ⟨(some 13), none, (.mv (.t 45))⟩]) (.seq (.seq (.ops [⟨(some 46), none, (.mv (.t 13))⟩, ⟨(some 47), none, (.mv (.t 10))⟩, ⟨(some 48), none, (.bin .neq (.t 46) (.t 47))⟩]) (.cond (.t 48) (.seq (.ops [⟨(some 8), none, (.mv (.c (.t (.bool false))))⟩]) .ret) .skip)) (.seq (.seq (.drawn [(.mk 0 false ⟨(some 49), none, (.load (some 3) (.t 11))⟩ []), (.mk 1 false ⟨(some 50), none, (.load (some 3) (.t 4))⟩ []), (.mk 2 true ⟨(some 51), none, (.call (.c (.fn (.func 23) [])) [(.t 50)])⟩ [⟨(some 49), none, (.load (some 3) (.t 11))⟩]), (.mk 3 false ⟨(some 52), none, (.call (.c (.fn (.func 26) [])) [(.t 49), (.t 51)])⟩ []), (.mk 4 false ⟨(some 53), none, (.un .not (.t 52))⟩ [])]) (.cond (.t 53) (.seq (.ops [⟨(some 8), none, (.mv (.c (.t (.bool false))))⟩]) .ret) .skip)) (.seq (.seq (.drawn [(.mk 0 false ⟨(some 54), none, (.load (some 7) (.t 12))⟩ []), (.mk 1 false ⟨(some 55), none, (.load (some 7) (.t 5))⟩ []), (.mk 2 true ⟨(some 56), none, (.call (.c (.fn (.func 24) [])) [(.t 55)])⟩ [⟨(some 54), none, (.load (some 7) (.t 12))⟩]), (.mk 3 false ⟨(some 57), none, (.call (.c (.fn (.func 27) [])) [(.t 54), (.t 56)])⟩ []), (.mk 4 false ⟨(some 58), none, (.un .not (.t 57))⟩ [])]) (.cond (.t 58) (.seq (.ops [⟨(some 8), none, (.mv (.c (.t (.bool false))))⟩]) .ret) .skip)) (.seq (.ops [⟨(some 8), none, (.mv (.c (.t (.bool true))))⟩]) .ret))))))))))))))))
theorem k_laws_FnExactGateUsed : comp Try.prog 59 (Try.f5.body.getD .skip) = some c_laws_FnExactGateUsed := by kernel_rfl

theorem lawGateUsed (a0 : GateLaw) (a1 : GateBook) (a2 : List UInt8) (a3 : List UInt8) (h0 : T.isL shGateLaw a0.ts) (q0 : T.sizeL a0.ts ≤ 1048576 → a0.Ok) (h1 : T.isL shGateBook a1.ts) (q1 : T.sizeL a1.ts ≤ 1048576 → a1.Ok) (h2 : a2.length ≤ maxLen) (h3 : a3.length ≤ maxLen) (σ : Store) : ACalls Try.prog 5 [.agg a0.vs, .agg a1.vs, .t (.str a2), .t (.str a3)] σ fun r _ => r = .t (.bool true) := by
  refine acalls_of Try.func5 (by decide +kernel) (code := Try.f5.body.getD .skip) (n := 59) (c := c_laws_FnExactGateUsed) (rs := [(.tmp 8)]) rfl rfl k_laws_FnExactGateUsed (by kernel_rfl) (by simp) (fun hσ => ?_)
  try simp only [maxLen] at *
  have fin : ∀ {τ : Store}, retV σ.length (fun r _ => r = .t (.bool true)) (σ ++ τ) (some [.t (.bool true)]) := ret_same rfl hσ rfl rfl
  have fin0 : retV σ.length (fun r _ => r = .t (.bool true)) σ (some [.t (.bool true)]) := ret_same0 rfl rfl
  simp -implicitDefEqProofs only [c_laws_FnExactGateUsed, GateBook.vs, GateLaw.vs, List.length_map, S0, S1, S2, S3, S4, S5, S6, S7, S8, S9, S10, S11, S12, S13, S14, S15, S16, S17, opv, opvs, eget, env0, setD, lenStr, lenSl, isNilP, isNilS, putAt, if_true, if_false, reduceCtorEq, Nat.reduceLeDiff, Nat.reduceEqDiff, Nat.reduceSub, Nat.reduceMul, Nat.reduceAdd]
  refine cond_split (fun g2 => ?_) (fun g2 => ?_)
  · simp -implicitDefEqProofs only [S0, S1, S2, S3, S4, S5, S6, S7, S8, S9, S10, S11, S12, S13, S14, S15, S16, S17, opv, opvs, eget, env0, setD, lenStr, lenSl, isNilP, isNilS, putAt, if_true, if_false, reduceCtorEq, Nat.reduceLeDiff, Nat.reduceEqDiff, Nat.reduceSub, Nat.reduceMul, Nat.reduceAdd]
    first | exact fin | exact fin0
  replace g2 : a2.length ≤ 1048576 := by simp at g2; omega
  simp -implicitDefEqProofs only [ne_self, beq_self_eq_true, S0, S1, S2, S3, S4, S5, S6, S7, S8, S9, S10, S11, S12, S13, S14, S15, S16, S17, opv, opvs, eget, env0, setD, lenStr, lenSl, isNilP, isNilS, putAt, if_true, if_false, reduceCtorEq, Nat.reduceLeDiff, Nat.reduceEqDiff, Nat.reduceSub, Nat.reduceMul, Nat.reduceAdd]
  refine cond_split (fun g3 => ?_) (fun g3 => ?_)
  · simp -implicitDefEqProofs only [S0, S1, S2, S3, S4, S5, S6, S7, S8, S9, S10, S11, S12, S13, S14, S15, S16, S17, opv, opvs, eget, env0, setD, lenStr, lenSl, isNilP, isNilS, putAt, if_true, if_false, reduceCtorEq, Nat.reduceLeDiff, Nat.reduceEqDiff, Nat.reduceSub, Nat.reduceMul, Nat.reduceAdd]
    first | exact fin | exact fin0
  replace g3 : a3.length ≤ 1048576 := by simp at g3; omega
  simp -implicitDefEqProofs only [ne_self, beq_self_eq_true, S0, S1, S2, S3, S4, S5, S6, S7, S8, S9, S10, S11, S12, S13, S14, S15, S16, S17, opv, opvs, eget, env0, setD, lenStr, lenSl, isNilP, isNilS, putAt, if_true, if_false, reduceCtorEq, Nat.reduceLeDiff, Nat.reduceEqDiff, Nat.reduceSub, Nat.reduceMul, Nat.reduceAdd]
  refine call_by (by rw [List.append_nil]; exact szGateLaw a0.ts 1048576 _ h0 (by omega) (by omega)) ?_
  rintro r σ' ⟨⟨m1, rfl, hm1, hs1⟩, rfl⟩
  simp -implicitDefEqProofs only [ne_self, beq_self_eq_true, S0, S1, S2, S3, S4, S5, S6, S7, S8, S9, S10, S11, S12, S13, S14, S15, S16, S17, opv, opvs, eget, env0, setD, lenStr, lenSl, isNilP, isNilS, putAt, if_true, if_false, reduceCtorEq, Nat.reduceLeDiff, Nat.reduceEqDiff, Nat.reduceSub, Nat.reduceMul, Nat.reduceAdd]
  refine cond_split (fun h => ?_) (fun h => ?_)
  · simp -implicitDefEqProofs only [S0, S1, S2, S3, S4, S5, S6, S7, S8, S9, S10, S11, S12, S13, S14, S15, S16, S17, opv, opvs, eget, env0, setD, lenStr, lenSl, isNilP, isNilS, putAt, if_true, if_false, reduceCtorEq, Nat.reduceLeDiff, Nat.reduceEqDiff, Nat.reduceSub, Nat.reduceMul, Nat.reduceAdd]
    first | exact fin | exact fin0
  simp only [decide_eq_false_iff_not, Int.not_lt] at h
  replace hs1 := hs1 h
  simp -implicitDefEqProofs only [ne_self, beq_self_eq_true, S0, S1, S2, S3, S4, S5, S6, S7, S8, S9, S10, S11, S12, S13, S14, S15, S16, S17, opv, opvs, eget, env0, setD, lenStr, lenSl, isNilP, isNilS, putAt, if_true, if_false, reduceCtorEq, Nat.reduceLeDiff, Nat.reduceEqDiff, Nat.reduceSub, Nat.reduceMul, Nat.reduceAdd]
  refine call_by (by rw [List.append_nil]; exact szGateBook a1.ts m1 _ h1 (by omega) (by omega)) ?_
  rintro r σ' ⟨⟨m2, rfl, hm2, hs2⟩, rfl⟩
  simp -implicitDefEqProofs only [ne_self, beq_self_eq_true, S0, S1, S2, S3, S4, S5, S6, S7, S8, S9, S10, S11, S12, S13, S14, S15, S16, S17, opv, opvs, eget, env0, setD, lenStr, lenSl, isNilP, isNilS, putAt, if_true, if_false, reduceCtorEq, Nat.reduceLeDiff, Nat.reduceEqDiff, Nat.reduceSub, Nat.reduceMul, Nat.reduceAdd]
  refine cond_split (fun h => ?_) (fun h => ?_)
  · simp -implicitDefEqProofs only [S0, S1, S2, S3, S4, S5, S6, S7, S8, S9, S10, S11, S12, S13, S14, S15, S16, S17, opv, opvs, eget, env0, setD, lenStr, lenSl, isNilP, isNilS, putAt, if_true, if_false, reduceCtorEq, Nat.reduceLeDiff, Nat.reduceEqDiff, Nat.reduceSub, Nat.reduceMul, Nat.reduceAdd]
    first | exact fin | exact fin0
  simp only [decide_eq_false_iff_not, Int.not_lt] at h
  replace hs2 := hs2 h
  simp -implicitDefEqProofs only [ne_self, beq_self_eq_true, S0, S1, S2, S3, S4, S5, S6, S7, S8, S9, S10, S11, S12, S13, S14, S15, S16, S17, opv, opvs, eget, env0, setD, lenStr, lenSl, isNilP, isNilS, putAt, if_true, if_false, reduceCtorEq, Nat.reduceLeDiff, Nat.reduceEqDiff, Nat.reduceSub, Nat.reduceMul, Nat.reduceAdd]
  have o0 := q0 (by omega)
  have o1 := q1 (by omega)
  have o2 : a2.length ≤ 1048576 := by omega
  have o3 : a3.length ≤ 1048576 := by omega
  refine call_by (by rw [List.append_nil]; exact toGateLaw a0.ts _ h0 (by omega)) ?_
  rintro r σ' ⟨u1, τ1, j1, rfl, rfl, p1, w1⟩
  clear w1
  simp -implicitDefEqProofs only [ne_self, beq_self_eq_true, S0, S1, S2, S3, S4, S5, S6, S7, S8, S9, S10, S11, S12, S13, S14, S15, S16, S17, opv, opvs, eget, env0, setD, lenStr, lenSl, isNilP, isNilS, putAt, if_true, if_false, reduceCtorEq, Nat.reduceLeDiff, Nat.reduceEqDiff, Nat.reduceSub, Nat.reduceMul, Nat.reduceAdd]
  refine call_by (by rw [List.append_nil]; exact toGateBook a1.ts _ h1 (by omega)) ?_
  rintro r σ' ⟨u2, τ2, j2, rfl, rfl, p2, w2⟩
  clear w2
  simp -implicitDefEqProofs only [ne_self, beq_self_eq_true, S0, S1, S2, S3, S4, S5, S6, S7, S8, S9, S10, S11, S12, S13, S14, S15, S16, S17, opv, opvs, eget, env0, setD, lenStr, lenSl, isNilP, isNilS, putAt, if_true, if_false, reduceCtorEq, Nat.reduceLeDiff, Nat.reduceEqDiff, Nat.reduceSub, Nat.reduceMul, Nat.reduceAdd]
  refine call_bor (fun σ => spec_GateUsed a0 o0 a1 o1 a2 o2 a3 o3 σ) rfl ⟨_, _, rfl, sees_agg p1 rfl (by simp), _, _, rfl, sees_agg p2 rfl (by simp), _, _, rfl, sees_one rfl, _, _, rfl, sees_one rfl, rfl⟩ ?_
  simp -implicitDefEqProofs only [ne_self, beq_self_eq_true, S0, S1, S2, S3, S4, S5, S6, S7, S8, S9, S10, S11, S12, S13, S14, S15, S16, S17, opv, opvs, eget, env0, setD, lenStr, lenSl, isNilP, isNilS, putAt, if_true, if_false, reduceCtorEq, Nat.reduceLeDiff, Nat.reduceEqDiff, Nat.reduceSub, Nat.reduceMul, Nat.reduceAdd]
  refine call_by (by rw [List.append_nil]; exact toGateLaw a0.ts _ h0 (by omega)) ?_
  rintro r σ' ⟨u3, τ3, j3, rfl, rfl, p3, w3⟩
  clear w3
  obtain ⟨v3x0, v3x1, v3x2, rfl⟩ : ∃ v3x0 v3x1 v3x2, u3 = [v3x0, v3x1, v3x2] := list3y p3.len
  have e3 := p3.ones
  simp only [List.all_cons, List.all_nil, Bool.and_eq_true, and_true] at e3
  obtain ⟨e3x0, e3x1, e3x2⟩ := e3
  simp -implicitDefEqProofs only [e3x0, e3x1, e3x2, ne_self, beq_self_eq_true, S0, S1, S2, S3, S4, S5, S6, S7, S8, S9, S10, S11, S12, S13, S14, S15, S16, S17, opv, opvs, eget, env0, setD, lenStr, lenSl, isNilP, isNilS, putAt, if_true, if_false, reduceCtorEq, Nat.reduceLeDiff, Nat.reduceEqDiff, Nat.reduceSub, Nat.reduceMul, Nat.reduceAdd]
  refine call_by (by rw [List.append_nil]; exact toGateBook a1.ts _ h1 (by omega)) ?_
  rintro r σ' ⟨u4, τ4, j4, rfl, rfl, p4, w4⟩
  clear w4
  obtain ⟨v4x0, v4x1, v4x2, v4x3, v4x4, v4x5, v4x6, rfl⟩ : ∃ v4x0 v4x1 v4x2 v4x3 v4x4 v4x5 v4x6, u4 = [v4x0, v4x1, v4x2, v4x3, v4x4, v4x5, v4x6] := list7y p4.len
  have e4 := p4.ones
  simp only [List.all_cons, List.all_nil, Bool.and_eq_true, and_true] at e4
  obtain ⟨e4x0, e4x1, e4x2, e4x3, e4x4, e4x5, e4x6⟩ := e4
  simp -implicitDefEqProofs only [e3x0, e3x1, e3x2, e4x0, e4x1, e4x2, e4x3, e4x4, e4x5, e4x6, ne_self, beq_self_eq_true, S0, S1, S2, S3, S4, S5, S6, S7, S8, S9, S10, S11, S12, S13, S14, S15, S16, S17, opv, opvs, eget, env0, setD, lenStr, lenSl, isNilP, isNilS, putAt, if_true, if_false, reduceCtorEq, Nat.reduceLeDiff, Nat.reduceEqDiff, Nat.reduceSub, Nat.reduceMul, Nat.reduceAdd]
  refine call_bor (fun σ => impl_GateUsed a0 o0 a1 o1 a2 o2 a3 o3 σ) rfl ⟨_, _, rfl, sees_agg p3 rfl (by simp), _, _, rfl, sees_agg p4 rfl (by simp), _, _, rfl, sees_one rfl, _, _, rfl, sees_one rfl, rfl⟩ ?_
  simp -implicitDefEqProofs only [e3x0, e3x1, e3x2, e4x0, e4x1, e4x2, e4x3, e4x4, e4x5, e4x6, ne_self, beq_self_eq_true, S0, S1, S2, S3, S4, S5, S6, S7, S8, S9, S10, S11, S12, S13, S14, S15, S16, S17, opv, opvs, eget, env0, setD, lenStr, lenSl, isNilP, isNilS, putAt, if_true, if_false, reduceCtorEq, Nat.reduceLeDiff, Nat.reduceEqDiff, Nat.reduceSub, Nat.reduceMul, Nat.reduceAdd]
  refine call_by (by rw [List.append_nil]; exact toGateLaw a0.ts _ h0 (by omega)) ?_
  rintro r σ' ⟨u5, τ5, j5, rfl, rfl, p5, w5⟩
  clear w5
  simp -implicitDefEqProofs only [e3x0, e3x1, e3x2, e4x0, e4x1, e4x2, e4x3, e4x4, e4x5, e4x6, ne_self, beq_self_eq_true, S0, S1, S2, S3, S4, S5, S6, S7, S8, S9, S10, S11, S12, S13, S14, S15, S16, S17, opv, opvs, eget, env0, setD, lenStr, lenSl, isNilP, isNilS, putAt, if_true, if_false, reduceCtorEq, Nat.reduceLeDiff, Nat.reduceEqDiff, Nat.reduceSub, Nat.reduceMul, Nat.reduceAdd]
  refine call_bor (fun σ => eqGateLaw a0.ts σ h0 (by omega)) rfl ⟨_, _, rfl, sees_agg p3 rfl (by simp), _, _, rfl, sees_agg p5 rfl (by simp), rfl⟩ ?_
  simp -implicitDefEqProofs only [e3x0, e3x1, e3x2, e4x0, e4x1, e4x2, e4x3, e4x4, e4x5, e4x6, ne_self, beq_self_eq_true, S0, S1, S2, S3, S4, S5, S6, S7, S8, S9, S10, S11, S12, S13, S14, S15, S16, S17, opv, opvs, eget, env0, setD, lenStr, lenSl, isNilP, isNilS, putAt, if_true, if_false, reduceCtorEq, Nat.reduceLeDiff, Nat.reduceEqDiff, Nat.reduceSub, Nat.reduceMul, Nat.reduceAdd]
  refine call_by (by rw [List.append_nil]; exact toGateBook a1.ts _ h1 (by omega)) ?_
  rintro r σ' ⟨u6, τ6, j6, rfl, rfl, p6, w6⟩
  clear w6
  simp -implicitDefEqProofs only [e3x0, e3x1, e3x2, e4x0, e4x1, e4x2, e4x3, e4x4, e4x5, e4x6, ne_self, beq_self_eq_true, S0, S1, S2, S3, S4, S5, S6, S7, S8, S9, S10, S11, S12, S13, S14, S15, S16, S17, opv, opvs, eget, env0, setD, lenStr, lenSl, isNilP, isNilS, putAt, if_true, if_false, reduceCtorEq, Nat.reduceLeDiff, Nat.reduceEqDiff, Nat.reduceSub, Nat.reduceMul, Nat.reduceAdd]
  refine call_bor (fun σ => eqGateBook a1.ts σ h1 (by omega)) rfl ⟨_, _, rfl, sees_agg p4 rfl (by simp), _, _, rfl, sees_agg p6 rfl (by simp), rfl⟩ ?_
  simp -implicitDefEqProofs only [e3x0, e3x1, e3x2, e4x0, e4x1, e4x2, e4x3, e4x4, e4x5, e4x6, ne_self, beq_self_eq_true, S0, S1, S2, S3, S4, S5, S6, S7, S8, S9, S10, S11, S12, S13, S14, S15, S16, S17, opv, opvs, eget, env0, setD, lenStr, lenSl, isNilP, isNilS, putAt, if_true, if_false, reduceCtorEq, Nat.reduceLeDiff, Nat.reduceEqDiff, Nat.reduceSub, Nat.reduceMul, Nat.reduceAdd]
  first | exact fin | exact fin0
end Go.Proofs.Ytgdmgoidfglobaa.LGateUsed
