/- FnExactGateMendsOk: what the law's code does: it returns true. Conditions: none. -/
import Derived.Test.YtcjchimenfadkaaGateMnd7
set_option linter.unusedSimpArgs false
set_option linter.unusedVariables false
set_option linter.defProp false
open Go Go.Ab
set_option maxHeartbeats 4000000
namespace Go.Proofs.Ytcjchimenfadkaa.LGateMendsOk
open Go.Proofs.Ytcjchimenfadkaa.W
def c_laws_FnExactGateMendsOk : C := (.seq (.ops [⟨(some 4), none, (.mv (.c (.t (.bool false))))⟩]) (.seq (.ops [⟨(some 5), none, (.mv (.c (.t (.int .i64 1048576))))⟩]) (.seq (.ops [⟨(some 10), none, (.mv (.t 0))⟩, ⟨(some 11), none, (.mv (.t 5))⟩, ⟨(some 12), none, (.call (.c (.fn (.func 4) [])) [(.t 10), (.t 11)])⟩, ⟨(some 5), none, (.mv (.t 12))⟩]) (.seq (.seq (.ops [⟨(some 13), none, (.mv (.t 5))⟩, ⟨(some 14), none, (.bin .lss (.t 13) (.c (.t (.int .i64 0))))⟩]) (.cond (.t 14) (.seq (.ops [⟨(some 4), none, (.mv (.c (.t (.bool true))))⟩]) .ret) .skip)) (.seq (.ops [⟨(some 15), none, (.mv (.t 1))⟩, ⟨(some 16), none, (.mv (.t 5))⟩, ⟨(some 17), none, (.call (.c (.fn (.func 5) [])) [(.t 15), (.t 16)])⟩, ⟨(some 5), none, (.mv (.t 17))⟩]) (.seq (.seq (.ops [⟨(some 18), none, (.mv (.t 5))⟩, ⟨(some 19), none, (.bin .lss (.t 18) (.c (.t (.int .i64 0))))⟩]) (.cond (.t 19) (.seq (.ops [⟨(some 4), none, (.mv (.c (.t (.bool true))))⟩]) .ret) .skip)) (.seq (.ops [⟨(some 20), none, (.mv (.t 0))⟩, ⟨(some 21), none, (.call (.c (.fn (.func 7) [])) [(.t 20)])⟩, ⟨(some 22), none, (.mv (.t 1))⟩, ⟨(some 23), none, (.call (.c (.fn (.func 8) [])) [(.t 22)])⟩, ⟨(some 24), none, (.call (.c (.fn (.func 6) [])) [(.t 21), (.t 23)])⟩, ⟨(some 6), none, (.mv (.t 24))⟩]) (.seq (.ops [⟨(some 25), none, (.mv (.t 0))⟩, ⟨(some 26), none, (.call (.c (.fn (.func 7) [])) [(.t 25)])⟩, ⟨(some 7), none, (.mv (.t 26))⟩]) (.seq (.ops [⟨(some 27), none, (.mv (.t 1))⟩, ⟨(some 28), none, (.call (.c (.fn (.func 8) [])) [(.t 27)])⟩, ⟨(some 8), none, (.mv (.t 28))⟩]) (.seq (.ops [⟨(some 29), none, (.mv (.t 7))⟩, ⟨(some 30), none, (.mv (.t 8))⟩, ⟨(some 31), none, (.call (.c (.fn (.func 9) [])) [(.t 29), (.t 30)])⟩, ⟨(some 9), none, (.mv (.t 31))⟩]) (.seq (.seq (.ops [⟨(some 32), none, (.mv (.t 9))⟩, ⟨(some 33), none, (.mv (.t 6))⟩, ⟨(some 34), none, (.eqB true (.t 32) (.t 33))⟩]) (.cond (.t 34) (.seq (.ops [⟨(some 4), none, (.mv (.c (.t (.bool false))))⟩]) .ret) .skip)) (.seq (.seq (.ops [⟨(some 35), none, (.mv (.t 7))⟩, ⟨(some 36), none, (.mv (.t 0))⟩, ⟨(some 37), none, (.call (.c (.fn (.func 7) [])) [(.t 36)])⟩, ⟨(some 38), none, (.call (.c (.fn (.func 10) [])) [(.t 35), (.t 37)])⟩, ⟨(some 39), none, (.un .not (.t 38))⟩]) (.cond (.t 39) (.seq (.ops [⟨(some 4), none, (.mv (.c (.t (.bool false))))⟩]) .ret) .skip)) (.seq (.seq (.ops [⟨(some 40), none, (.mv (.t 8))⟩, ⟨(some 41), none, (.mv (.t 1))⟩, ⟨(some 42), none, (.call (.c (.fn (.func 8) [])) [(.t 41)])⟩, ⟨(some 43), none, (.call (.c (.fn (.func 11) [])) [(.t 40), (.t 42)])⟩, ⟨(some 44), none, (.un .not (.t 43))⟩]) (.cond (.t 44) (.seq (.ops [⟨(some 4), none, (.mv (.c (.t (.bool false))))⟩]) .ret) .skip)) (.seq (.ops [⟨(some 4), none, (.mv (.c (.t (.bool true))))⟩]) .ret))))))))))))))
theorem k_laws_FnExactGateMendsOk : comp Try.prog 45 (Try.f3.body.getD .skip) = some c_laws_FnExactGateMendsOk := by kernel_rfl

theorem lawGateMendsOk (a0 : List GateShape) (a1 : List GateMend) (h0 : T.is (.sl 2 shGateShape) (tGateShapeS a0)) (q0 : (tGateShapeS a0).size ≤ 1048576 → GateShape.OkS a0) (h1 : T.is (.sl 6 shGateMend) (tGateMendS a1)) (q1 : (tGateMendS a1).size ≤ 1048576 → GateMend.OkS a1) (σ : Store) : ACalls Try.prog 3 [.t (tGateShapeS a0), .t (tGateMendS a1)] σ fun r _ => r = .t (.bool true) := by
  refine acalls_of Try.func3 (by decide +kernel) (code := Try.f3.body.getD .skip) (n := 45) (c := c_laws_FnExactGateMendsOk) (rs := [(.tmp 4)]) rfl rfl k_laws_FnExactGateMendsOk (by kernel_rfl) (by simp) (fun hσ => ?_)
  try simp only [maxLen] at *
  have fin : ∀ {τ : Store}, retV σ.length (fun r _ => r = .t (.bool true)) (σ ++ τ) (some [.t (.bool true)]) := ret_same rfl hσ rfl rfl
  have fin0 : retV σ.length (fun r _ => r = .t (.bool true)) σ (some [.t (.bool true)]) := ret_same0 rfl rfl
  simp -implicitDefEqProofs only [c_laws_FnExactGateMendsOk, tGateMendS, tGateShapeS, List.length_map, S0, S1, S2, S3, S4, S5, S6, S7, S8, S9, S10, S11, S12, S13, S14, S15, S16, S17, opv, opvs, eget, env0, setD, lenStr, lenSl, isNilP, isNilS, putAt, if_true, if_false, reduceCtorEq, Nat.reduceLeDiff, Nat.reduceEqDiff, Nat.reduceSub, Nat.reduceMul, Nat.reduceAdd]
  refine call_by (by rw [List.append_nil]; exact szGateShapeS (tGateShapeS a0) 1048576 _ h0 (by omega) (by omega)) ?_
  rintro r σ' ⟨⟨m1, rfl, hm1, hs1⟩, rfl⟩
  simp -implicitDefEqProofs only [ne_self, beq_self_eq_true, S0, S1, S2, S3, S4, S5, S6, S7, S8, S9, S10, S11, S12, S13, S14, S15, S16, S17, opv, opvs, eget, env0, setD, lenStr, lenSl, isNilP, isNilS, putAt, if_true, if_false, reduceCtorEq, Nat.reduceLeDiff, Nat.reduceEqDiff, Nat.reduceSub, Nat.reduceMul, Nat.reduceAdd]
  refine cond_split (fun h => ?_) (fun h => ?_)
  · simp -implicitDefEqProofs only [S0, S1, S2, S3, S4, S5, S6, S7, S8, S9, S10, S11, S12, S13, S14, S15, S16, S17, opv, opvs, eget, env0, setD, lenStr, lenSl, isNilP, isNilS, putAt, if_true, if_false, reduceCtorEq, Nat.reduceLeDiff, Nat.reduceEqDiff, Nat.reduceSub, Nat.reduceMul, Nat.reduceAdd]
    first | exact fin | exact fin0
  simp only [decide_eq_false_iff_not, Int.not_lt] at h
  replace hs1 := hs1 h
  simp -implicitDefEqProofs only [ne_self, beq_self_eq_true, S0, S1, S2, S3, S4, S5, S6, S7, S8, S9, S10, S11, S12, S13, S14, S15, S16, S17, opv, opvs, eget, env0, setD, lenStr, lenSl, isNilP, isNilS, putAt, if_true, if_false, reduceCtorEq, Nat.reduceLeDiff, Nat.reduceEqDiff, Nat.reduceSub, Nat.reduceMul, Nat.reduceAdd]
  refine call_by (by rw [List.append_nil]; exact szGateMendS (tGateMendS a1) m1 _ h1 (by omega) (by omega)) ?_
  rintro r σ' ⟨⟨m2, rfl, hm2, hs2⟩, rfl⟩
  simp -implicitDefEqProofs only [ne_self, beq_self_eq_true, S0, S1, S2, S3, S4, S5, S6, S7, S8, S9, S10, S11, S12, S13, S14, S15, S16, S17, opv, opvs, eget, env0, setD, lenStr, lenSl, isNilP, isNilS, putAt, if_true, if_false, reduceCtorEq, Nat.reduceLeDiff, Nat.reduceEqDiff, Nat.reduceSub, Nat.reduceMul, Nat.reduceAdd]
  refine cond_split (fun h => ?_) (fun h => ?_)
  · simp -implicitDefEqProofs only [S0, S1, S2, S3, S4, S5, S6, S7, S8, S9, S10, S11, S12, S13, S14, S15, S16, S17, opv, opvs, eget, env0, setD, lenStr, lenSl, isNilP, isNilS, putAt, if_true, if_false, reduceCtorEq, Nat.reduceLeDiff, Nat.reduceEqDiff, Nat.reduceSub, Nat.reduceMul, Nat.reduceAdd]
    first | exact fin | exact fin0
  simp only [decide_eq_false_iff_not, Int.not_lt] at h
  replace hs2 := hs2 h
  simp -implicitDefEqProofs only [ne_self, beq_self_eq_true, S0, S1, S2, S3, S4, S5, S6, S7, S8, S9, S10, S11, S12, S13, S14, S15, S16, S17, opv, opvs, eget, env0, setD, lenStr, lenSl, isNilP, isNilS, putAt, if_true, if_false, reduceCtorEq, Nat.reduceLeDiff, Nat.reduceEqDiff, Nat.reduceSub, Nat.reduceMul, Nat.reduceAdd]
  have o0 := q0 (by omega)
  have o1 := q1 (by omega)
  refine call_by (by rw [List.append_nil]; exact toGateShapeS (tGateShapeS a0) _ h0 (by omega)) ?_
  rintro u1 σ' ⟨τ1, j1, rfl, p1, w1⟩
  clear w1
  have e1 := p1.one
  simp -implicitDefEqProofs only [one_cells e1, e1, ne_self, beq_self_eq_true, S0, S1, S2, S3, S4, S5, S6, S7, S8, S9, S10, S11, S12, S13, S14, S15, S16, S17, opv, opvs, eget, env0, setD, lenStr, lenSl, isNilP, isNilS, putAt, if_true, if_false, reduceCtorEq, Nat.reduceLeDiff, Nat.reduceEqDiff, Nat.reduceSub, Nat.reduceMul, Nat.reduceAdd]
  refine call_by (by rw [List.append_nil]; exact toGateMendS (tGateMendS a1) _ h1 (by omega)) ?_
  rintro u2 σ' ⟨τ2, j2, rfl, p2, w2⟩
  clear w2
  have e2 := p2.one
  simp -implicitDefEqProofs only [one_cells e1, e1, one_cells e2, e2, ne_self, beq_self_eq_true, S0, S1, S2, S3, S4, S5, S6, S7, S8, S9, S10, S11, S12, S13, S14, S15, S16, S17, opv, opvs, eget, env0, setD, lenStr, lenSl, isNilP, isNilS, putAt, if_true, if_false, reduceCtorEq, Nat.reduceLeDiff, Nat.reduceEqDiff, Nat.reduceSub, Nat.reduceMul, Nat.reduceAdd]
  refine call_bor (fun σ => spec_GateMendsOk a0 o0 a1 o1 σ) rfl ⟨_, _, rfl, sees_lst p1 rfl (by simp), _, _, rfl, sees_lst p2 rfl (by simp), rfl⟩ ?_
  simp -implicitDefEqProofs only [one_cells e1, e1, one_cells e2, e2, ne_self, beq_self_eq_true, S0, S1, S2, S3, S4, S5, S6, S7, S8, S9, S10, S11, S12, S13, S14, S15, S16, S17, opv, opvs, eget, env0, setD, lenStr, lenSl, isNilP, isNilS, putAt, if_true, if_false, reduceCtorEq, Nat.reduceLeDiff, Nat.reduceEqDiff, Nat.reduceSub, Nat.reduceMul, Nat.reduceAdd]
  refine call_by (by rw [List.append_nil]; exact toGateShapeS (tGateShapeS a0) _ h0 (by omega)) ?_
  rintro u3 σ' ⟨τ3, j3, rfl, p3, w3⟩
  clear w3
  have e3 := p3.one
  simp -implicitDefEqProofs only [one_cells e1, e1, one_cells e2, e2, one_cells e3, e3, ne_self, beq_self_eq_true, S0, S1, S2, S3, S4, S5, S6, S7, S8, S9, S10, S11, S12, S13, S14, S15, S16, S17, opv, opvs, eget, env0, setD, lenStr, lenSl, isNilP, isNilS, putAt, if_true, if_false, reduceCtorEq, Nat.reduceLeDiff, Nat.reduceEqDiff, Nat.reduceSub, Nat.reduceMul, Nat.reduceAdd]
  refine call_by (by rw [List.append_nil]; exact toGateMendS (tGateMendS a1) _ h1 (by omega)) ?_
  rintro u4 σ' ⟨τ4, j4, rfl, p4, w4⟩
  clear w4
  have e4 := p4.one
  simp -implicitDefEqProofs only [one_cells e1, e1, one_cells e2, e2, one_cells e3, e3, one_cells e4, e4, ne_self, beq_self_eq_true, S0, S1, S2, S3, S4, S5, S6, S7, S8, S9, S10, S11, S12, S13, S14, S15, S16, S17, opv, opvs, eget, env0, setD, lenStr, lenSl, isNilP, isNilS, putAt, if_true, if_false, reduceCtorEq, Nat.reduceLeDiff, Nat.reduceEqDiff, Nat.reduceSub, Nat.reduceMul, Nat.reduceAdd]
  refine call_bor (fun σ => impl_GateMendsOk a0 o0 a1 o1 σ) rfl ⟨_, _, rfl, sees_lst p3 rfl (by simp), _, _, rfl, sees_lst p4 rfl (by simp), rfl⟩ ?_
  simp -implicitDefEqProofs only [one_cells e1, e1, one_cells e2, e2, one_cells e3, e3, one_cells e4, e4, ne_self, beq_self_eq_true, S0, S1, S2, S3, S4, S5, S6, S7, S8, S9, S10, S11, S12, S13, S14, S15, S16, S17, opv, opvs, eget, env0, setD, lenStr, lenSl, isNilP, isNilS, putAt, if_true, if_false, reduceCtorEq, Nat.reduceLeDiff, Nat.reduceEqDiff, Nat.reduceSub, Nat.reduceMul, Nat.reduceAdd]
  refine call_by (by rw [List.append_nil]; exact toGateShapeS (tGateShapeS a0) _ h0 (by omega)) ?_
  rintro u5 σ' ⟨τ5, j5, rfl, p5, w5⟩
  clear w5
  have e5 := p5.one
  simp -implicitDefEqProofs only [one_cells e1, e1, one_cells e2, e2, one_cells e3, e3, one_cells e4, e4, one_cells e5, e5, ne_self, beq_self_eq_true, S0, S1, S2, S3, S4, S5, S6, S7, S8, S9, S10, S11, S12, S13, S14, S15, S16, S17, opv, opvs, eget, env0, setD, lenStr, lenSl, isNilP, isNilS, putAt, if_true, if_false, reduceCtorEq, Nat.reduceLeDiff, Nat.reduceEqDiff, Nat.reduceSub, Nat.reduceMul, Nat.reduceAdd]
  refine call_bor (fun σ => eqGateShapeS (tGateShapeS a0) σ h0 (by omega)) rfl ⟨_, _, rfl, sees_lst p3 rfl (by simp), _, _, rfl, sees_lst p5 rfl (by simp), rfl⟩ ?_
  simp -implicitDefEqProofs only [one_cells e1, e1, one_cells e2, e2, one_cells e3, e3, one_cells e4, e4, one_cells e5, e5, ne_self, beq_self_eq_true, S0, S1, S2, S3, S4, S5, S6, S7, S8, S9, S10, S11, S12, S13, S14, S15, S16, S17, opv, opvs, eget, env0, setD, lenStr, lenSl, isNilP, isNilS, putAt, if_true, if_false, reduceCtorEq, Nat.reduceLeDiff, Nat.reduceEqDiff, Nat.reduceSub, Nat.reduceMul, Nat.reduceAdd]
  refine call_by (by rw [List.append_nil]; exact toGateMendS (tGateMendS a1) _ h1 (by omega)) ?_
  rintro u6 σ' ⟨τ6, j6, rfl, p6, w6⟩
  clear w6
  have e6 := p6.one
  simp -implicitDefEqProofs only [one_cells e1, e1, one_cells e2, e2, one_cells e3, e3, one_cells e4, e4, one_cells e5, e5, one_cells e6, e6, ne_self, beq_self_eq_true, S0, S1, S2, S3, S4, S5, S6, S7, S8, S9, S10, S11, S12, S13, S14, S15, S16, S17, opv, opvs, eget, env0, setD, lenStr, lenSl, isNilP, isNilS, putAt, if_true, if_false, reduceCtorEq, Nat.reduceLeDiff, Nat.reduceEqDiff, Nat.reduceSub, Nat.reduceMul, Nat.reduceAdd]
  refine call_bor (fun σ => eqGateMendS (tGateMendS a1) σ h1 (by omega)) rfl ⟨_, _, rfl, sees_lst p4 rfl (by simp), _, _, rfl, sees_lst p6 rfl (by simp), rfl⟩ ?_
  simp -implicitDefEqProofs only [one_cells e1, e1, one_cells e2, e2, one_cells e3, e3, one_cells e4, e4, one_cells e5, e5, one_cells e6, e6, ne_self, beq_self_eq_true, S0, S1, S2, S3, S4, S5, S6, S7, S8, S9, S10, S11, S12, S13, S14, S15, S16, S17, opv, opvs, eget, env0, setD, lenStr, lenSl, isNilP, isNilS, putAt, if_true, if_false, reduceCtorEq, Nat.reduceLeDiff, Nat.reduceEqDiff, Nat.reduceSub, Nat.reduceMul, Nat.reduceAdd]
  first | exact fin | exact fin0
end Go.Proofs.Ytcjchimenfadkaa.LGateMendsOk
