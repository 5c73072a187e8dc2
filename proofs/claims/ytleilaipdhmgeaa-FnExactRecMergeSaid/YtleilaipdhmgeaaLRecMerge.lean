/- FnExactRecMerge: what the law's code does: it returns true. Conditions: none. -/
import Derived.Test.YtleilaipdhmgeaaRecMergeO
import Derived.Test.YtleilaipdhmgeaaAbZb
set_option linter.unusedSimpArgs false
set_option linter.unusedVariables false
set_option linter.defProp false
open Go Go.Ab
set_option maxHeartbeats 4000000
namespace Go.Proofs.Ytleilaipdhmgeaa.LRecMerge
open Go.Proofs.Ytleilaipdhmgeaa.W
def c_laws_FnExactRecMerge : C := (.seq (.ops [⟨(some 4), none, (.mv (.c (.t (.bool false))))⟩]) (.seq (.ops [⟨(some 5), none, (.mv (.c (.t (.int .i64 1048576))))⟩]) (.seq (.ops [⟨(some 14), none, (.mv (.t 0))⟩, ⟨(some 15), none, (.mv (.t 5))⟩, ⟨(some 16), none, (.call (.c (.fn (.func 21) [])) [(.t 14), (.t 15)])⟩, ⟨(some 5), none, (.mv (.t 16))⟩]) (.seq (.seq (.ops [⟨(some 17), none, (.mv (.t 5))⟩, ⟨(some 18), none, (.bin .lss (.t 17) (.c (.t (.int .i64 0))))⟩]) (.cond (.t 18) (.seq (.ops [⟨(some 4), none, (.mv (.c (.t (.bool true))))⟩]) .ret) .skip)) (.seq (.ops [⟨(some 19), none, (.mv (.t 1))⟩, ⟨(some 20), none, (.mv (.t 5))⟩, ⟨(some 21), none, (.call (.c (.fn (.func 21) [])) [(.t 19), (.t 20)])⟩, ⟨(some 5), none, (.mv (.t 21))⟩]) (.seq (.seq (.ops [⟨(some 22), none, (.mv (.t 5))⟩, ⟨(some 23), none, (.bin .lss (.t 22) (.c (.t (.int .i64 0))))⟩]) (.cond (.t 23) (.seq (.ops [⟨(some 4), none, (.mv (.c (.t (.bool true))))⟩]) .ret) .skip)) (.seq (.ops [⟨(some 24), none, (.mv (.t 0))⟩, ⟨(some 25), none, (.call (.c (.fn (.func 23) [])) [(.t 24)])⟩, ⟨(some 26), none, (.mv (.t 1))⟩, ⟨(some 27), none, (.call (.c (.fn (.func 23) [])) [(.t 26)])⟩, ⟨(some 28), none, (.call (.c (.fn (.func 22) [])) [(.t 25), (.t 27)])⟩, ⟨(some 6), none, (.mv (.t 28))⟩]) (.seq (.ops [⟨(some 29), none, (.mv (.t 0))⟩, ⟨(some 30), none, (.call (.c (.fn (.func 23) [])) [(.t 29)])⟩, ⟨(some 7), none, (.mv (.t 30))⟩]) (.seq (.ops [⟨(some 31), none, (.mv (.t 1))⟩, ⟨(some 32), none, (.call (.c (.fn (.func 23) [])) [(.t 31)])⟩, ⟨(some 8), none, (.mv (.t 32))⟩]) (.seq (.ops [⟨(some 33), none, (.mv (.t 7))⟩, ⟨(some 34), none, (.mv (.t 8))⟩, ⟨(some 35), none, (.call (.c (.fn (.func 24) [])) [(.t 33), (.t 34)])⟩, ⟨(some 9), none, (.mv (.t 35))⟩]) (.seq (.seq (.ops [⟨(some 36), none, (.mv (.t 9))⟩, ⟨(some 37), none, (.mv (.t 6))⟩, ⟨(some 38), none, (.call (.c (.fn (.func 25) [])) [(.t 36), (.t 37)])⟩, ⟨(some 39), none, (.un .not (.t 38))⟩]) (.cond (.t 39) (.seq (.ops [⟨(some 4), none, (.mv (.c (.t (.bool false))))⟩]) .ret) .skip)) (.seq (.seq (.ops [⟨(some 40), none, (.mv (.t 7))⟩, ⟨(some 41), none, (.mv (.t 0))⟩, ⟨(some 42), none, (.call (.c (.fn (.func 23) [])) [(.t 41)])⟩, ⟨(some 43), none, (.call (.c (.fn (.func 25) [])) [(.t 40), (.t 42)])⟩, ⟨(some 44), none, (.un .not (.t 43))⟩]) (.cond (.t 44) (.seq (.ops [⟨(some 4), none, (.mv (.c (.t (.bool false))))⟩]) .ret) .skip)) (.seq (.seq (.ops [⟨(some 45), none, (.mv (.t 8))⟩, ⟨(some 46), none, (.mv (.t 1))⟩, ⟨(some 47), none, (.call (.c (.fn (.func 23) [])) [(.t 46)])⟩, ⟨(some 48), none, (.call (.c (.fn (.func 25) [])) [(.t 45), (.t 47)])⟩, ⟨(some 49), none, (.un .not (.t 48))⟩]) (.cond (.t 49) (.seq (.ops [⟨(some 4), none, (.mv (.c (.t (.bool false))))⟩]) .ret) .skip)) (.seq (.ops [⟨(some 10), none, (.mv (.c (.t (.int .i64 1))))⟩]) (.seq (.ops [⟨(some 50), none, (.mv (.t 7))⟩, ⟨(some 51), none, (.mv (.t 10))⟩, ⟨(some 52), none, (.call (.c (.fn (.func 26) [])) [(.t 50), (.t 51)])⟩, ⟨(some 10), none, (.mv (.t 52))⟩]) (.seq (.ops [⟨(some 53), none, (.mv (.t 8))⟩, ⟨(some 54), none, (.mv (.t 10))⟩, ⟨(some 55), none, (.call (.c (.fn (.func 26) [])) [(.t 53), (.t 54)])⟩, ⟨(some 10), none, (.mv (.t 55))⟩]) (.seq (.seq (.ops [⟨(some 56), none, (.mv (.t 10))⟩, ⟨(some 57), none, (.bin .lss (.t 56) (.c (.t (.int .i64 0))))⟩, ⟨(some 58), none, (.mv (.t 57))⟩, ⟨(some 59), (some ⟨58, false⟩), (.mv (.t 9))⟩, ⟨(some 60), (some ⟨58, false⟩), (.mv (.t 6))⟩, ⟨(some 61), (some ⟨58, false⟩), (.call (.c (.fn (.func 25) [])) [(.t 59), (.t 60)])⟩, ⟨(some 62), (some ⟨58, false⟩), (.un .not (.t 61))⟩, ⟨(some 63), none, (.pick (.t 58) (.c (.t (.bool true))) (.t 62))⟩]) (.cond (.t 63) (.seq (.ops [⟨(some 4), none, (.mv (.c (.t (.bool false))))⟩]) .ret) .skip)) (.seq (.ops [⟨(some 11), none, (.mv (.c (.t (.int .i64 1))))⟩]) (.seq (.ops [⟨(some 64), none, (.mv (.t 9))⟩, ⟨(some 65), none, (.mv (.t 11))⟩, ⟨(some 66), none, (.call (.c (.fn (.func 26) [])) [(.t 64), (.t 65)])⟩, ⟨(some 11), none, (.mv (.t 66))⟩]) (.seq (.ops [⟨(some 12), none, (.mv (.c (.t (.int .i64 1))))⟩]) (.seq (.ops [⟨(some 67), none, (.mv (.t 9))⟩, ⟨(some 68), none, (.mv (.t 12))⟩, ⟨(some 69), none, (.call (.c (.fn (.func 27) [])) [(.t 67), (.t 68)])⟩, ⟨(some 12), none, (.mv (.t 69))⟩]) (.seq (.seq (.ops [⟨(some 70), none, (.mv (.t 12))⟩, ⟨(some 71), none, (.bin .lss (.t 70) (.c (.t (.int .i64 0))))⟩]) (.cond (.t 71) (.seq (.ops [⟨(some 4), none, (.mv (.c (.t (.bool false))))⟩]) .ret) .skip)) (.seq (.seq (.ops [⟨(some 72), none, (.mv (.t 12))⟩, ⟨(some 73), none, (.mv (.t 11))⟩, ⟨(some 74), none, (.bin .neq (.t 72) (.t 73))⟩]) (.cond (.t 74) (.seq (.ops [⟨(some 4), none, (.mv (.c (.t (.bool false))))⟩]) .ret) .skip)) (.seq (.ops [⟨(some 75), none, (.mv (.t 0))⟩, ⟨(some 76), none, (.call (.c (.fn (.func 23) [])) [(.t 75)])⟩, ⟨(some 77), none, (.mv (.t 1))⟩, ⟨(some 78), none, (.call (.c (.fn (.func 23) [])) [(.t 77)])⟩, ⟨(some 79), none, (.call (.c (.fn (.func 24) [])) [(.t 76), (.t 78)])⟩, ⟨(some 13), none, (.mv (.t 79))⟩]) (.seq (.seq (.ops [⟨(some 80), none, (.mv (.t 13))⟩, ⟨(some 81), none, (.mv (.t 6))⟩, ⟨(some 82), none, (.call (.c (.fn (.func 25) [])) [(.t 80), (.t 81)])⟩, ⟨(some 83), none, (.un .not (.t 82))⟩]) (.cond (.t 83) (.seq (.ops [⟨(some 4), none, (.mv (.c (.t (.bool false))))⟩]) .ret) .skip)) (.seq (.ops [⟨(some 12), none, (.mv (.c (.t (.int .i64 1))))⟩]) (.seq (.ops [⟨(some 84), none, (.mv (.t 9))⟩, ⟨(some 85), none, (.mv (.t 12))⟩, ⟨(some 86), none, (.call (.c (.fn (.func 27) [])) [(.t 84), (.t 85)])⟩, ⟨(some 12), none, (.mv (.t 86))⟩]) (.seq (.seq (.ops [⟨(some 87), none, (.mv (.t 12))⟩, ⟨(some 88), none, (.bin .lss (.t 87) (.c (.t (.int .i64 0))))⟩]) (.cond (.t 88) (.seq (.ops [⟨(some 4), none, (.mv (.c (.t (.bool false))))⟩]) .ret) .skip)) (.seq (.seq (.ops [⟨(some 89), none, (.mv (.t 12))⟩, ⟨(some 90), none, (.mv (.t 11))⟩, ⟨(some 91), none, (.bin .neq (.t 89) (.t 90))⟩]) (.cond (.t 91) (.seq (.ops [⟨(some 4), none, (.mv (.c (.t (.bool false))))⟩]) .ret) .skip)) (.seq (.ops [⟨(some 4), none, (.mv (.c (.t (.bool true))))⟩]) .ret))))))))))))))))))))))))))))))
theorem k_laws_FnExactRecMerge : comp Try.prog 92 (Try.f4.body.getD .skip) = some c_laws_FnExactRecMerge := by kernel_rfl

theorem lawRecMerge (a0 : List RecSlot) (a1 : List RecSlot) (h0 : T.is (.sl 2 shRecSlot) (tRecSlotS a0)) (q0 : (tRecSlotS a0).size ≤ 1048576 → RecSlot.OkS a0) (h1 : T.is (.sl 2 shRecSlot) (tRecSlotS a1)) (q1 : (tRecSlotS a1).size ≤ 1048576 → RecSlot.OkS a1) (σ : Store) : ACalls Try.prog 4 [.t (tRecSlotS a0), .t (tRecSlotS a1)] σ fun r _ => r = .t (.bool true) := by
  refine acalls_of Try.func4 (by decide +kernel) (code := Try.f4.body.getD .skip) (n := 92) (c := c_laws_FnExactRecMerge) (rs := [(.tmp 4)]) rfl rfl k_laws_FnExactRecMerge (by kernel_rfl) (by simp) (fun hσ => ?_)
  try simp only [maxLen] at *
  have fin : ∀ {τ : Store}, retV σ.length (fun r _ => r = .t (.bool true)) (σ ++ τ) (some [.t (.bool true)]) := ret_same rfl hσ rfl rfl
  have fin0 : retV σ.length (fun r _ => r = .t (.bool true)) σ (some [.t (.bool true)]) := ret_same0 rfl rfl
  simp -implicitDefEqProofs only [c_laws_FnExactRecMerge, S0, S1, S2, S3, S4, S5, S6, S7, S8, S9, S10, S11, S12, S13, S14, S15, opv, opvs, eget, env0, setD, lenStr, lenSl, isNilP, isNilS, putAt, if_true, if_false, reduceCtorEq, Nat.reduceLeDiff, Nat.reduceEqDiff, Nat.reduceSub, Nat.reduceMul, Nat.reduceAdd]
  refine call_by (by rw [List.append_nil]; exact szRecSlotS (tRecSlotS a0) 1048576 _ h0 (by omega) (by omega)) ?_
  rintro r σ' ⟨⟨m1, rfl, hm1, hs1⟩, rfl⟩
  simp -implicitDefEqProofs only [nat_neg, List.append_nil, ne_self, beq_self_eq_true, S0, S1, S2, S3, S4, S5, S6, S7, S8, S9, S10, S11, S12, S13, S14, S15, opv, opvs, eget, env0, setD, lenStr, lenSl, isNilP, isNilS, putAt, if_true, if_false, reduceCtorEq, Nat.reduceLeDiff, Nat.reduceEqDiff, Nat.reduceSub, Nat.reduceMul, Nat.reduceAdd]
  refine cond_split (fun h => ?_) (fun h => ?_)
  · simp -implicitDefEqProofs only [S0, S1, S2, S3, S4, S5, S6, S7, S8, S9, S10, S11, S12, S13, S14, S15, opv, opvs, eget, env0, setD, lenStr, lenSl, isNilP, isNilS, putAt, if_true, if_false, reduceCtorEq, Nat.reduceLeDiff, Nat.reduceEqDiff, Nat.reduceSub, Nat.reduceMul, Nat.reduceAdd]
    first | exact fin | exact fin0
  simp only [decide_eq_false_iff_not, Int.not_lt] at h
  replace hs1 := hs1 h
  simp -implicitDefEqProofs only [nat_neg, List.append_nil, ne_self, beq_self_eq_true, S0, S1, S2, S3, S4, S5, S6, S7, S8, S9, S10, S11, S12, S13, S14, S15, opv, opvs, eget, env0, setD, lenStr, lenSl, isNilP, isNilS, putAt, if_true, if_false, reduceCtorEq, Nat.reduceLeDiff, Nat.reduceEqDiff, Nat.reduceSub, Nat.reduceMul, Nat.reduceAdd]
  refine call_by (by rw [List.append_nil]; exact szRecSlotS (tRecSlotS a1) m1 _ h1 (by omega) (by omega)) ?_
  rintro r σ' ⟨⟨m2, rfl, hm2, hs2⟩, rfl⟩
  simp -implicitDefEqProofs only [nat_neg, List.append_nil, ne_self, beq_self_eq_true, S0, S1, S2, S3, S4, S5, S6, S7, S8, S9, S10, S11, S12, S13, S14, S15, opv, opvs, eget, env0, setD, lenStr, lenSl, isNilP, isNilS, putAt, if_true, if_false, reduceCtorEq, Nat.reduceLeDiff, Nat.reduceEqDiff, Nat.reduceSub, Nat.reduceMul, Nat.reduceAdd]
  refine cond_split (fun h => ?_) (fun h => ?_)
  · simp -implicitDefEqProofs only [S0, S1, S2, S3, S4, S5, S6, S7, S8, S9, S10, S11, S12, S13, S14, S15, opv, opvs, eget, env0, setD, lenStr, lenSl, isNilP, isNilS, putAt, if_true, if_false, reduceCtorEq, Nat.reduceLeDiff, Nat.reduceEqDiff, Nat.reduceSub, Nat.reduceMul, Nat.reduceAdd]
    first | exact fin | exact fin0
  simp only [decide_eq_false_iff_not, Int.not_lt] at h
  replace hs2 := hs2 h
  simp -implicitDefEqProofs only [nat_neg, List.append_nil, ne_self, beq_self_eq_true, S0, S1, S2, S3, S4, S5, S6, S7, S8, S9, S10, S11, S12, S13, S14, S15, opv, opvs, eget, env0, setD, lenStr, lenSl, isNilP, isNilS, putAt, if_true, if_false, reduceCtorEq, Nat.reduceLeDiff, Nat.reduceEqDiff, Nat.reduceSub, Nat.reduceMul, Nat.reduceAdd]
  have o0 := q0 (by omega)
  have o1 := q1 (by omega)
  obtain ⟨hT, hzt⟩ := res_RecMerge a0 h0 (by omega) o0 a1 h1 (by omega) o1
  have Sp := fun σ => specF_RecMerge a0 o0 a1 o1 σ
  have Ip := fun σ => implO_RecMerge a0 o0 a1 o1 σ
  generalize (resT_RecMerge a0 a1) = t at hT hzt Sp Ip
  have hmt : (T.mk markTxt 1 t).2 < 4611686018427387904 := by
    have := mk_ub (mt := markTxt) (t := t) (k := 1) (c := (.sl 2 shRecSlot)) (by decide) hT
    omega
  have IpF := fun σ => acalls_frzT (Ip σ)
  have toF0 := fun σ => acalls_frzT (toRecSlotS (tRecSlotS a0) σ h0 (by omega))
  have toF1 := fun σ => acalls_frzT (toRecSlotS (tRecSlotS a1) σ h1 (by omega))
  try simp -implicitDefEqProofs only [nat_neg, List.append_nil, ne_self, beq_self_eq_true, S0, S1, S2, S3, S4, S5, S6, S7, S8, S9, S10, S11, S12, S13, S14, S15, opv, opvs, eget, env0, setD, lenStr, lenSl, isNilP, isNilS, putAt, if_true, if_false, reduceCtorEq, Nat.reduceLeDiff, Nat.reduceEqDiff, Nat.reduceSub, Nat.reduceMul, Nat.reduceAdd]
  refine call_pure (toF0 _) ?_
  simp -implicitDefEqProofs only [nat_neg, List.append_nil, ne_self, beq_self_eq_true, S0, S1, S2, S3, S4, S5, S6, S7, S8, S9, S10, S11, S12, S13, S14, S15, opv, opvs, eget, env0, setD, lenStr, lenSl, isNilP, isNilS, putAt, if_true, if_false, reduceCtorEq, Nat.reduceLeDiff, Nat.reduceEqDiff, Nat.reduceSub, Nat.reduceMul, Nat.reduceAdd]
  refine call_pure (toF1 _) ?_
  simp -implicitDefEqProofs only [nat_neg, List.append_nil, ne_self, beq_self_eq_true, S0, S1, S2, S3, S4, S5, S6, S7, S8, S9, S10, S11, S12, S13, S14, S15, opv, opvs, eget, env0, setD, lenStr, lenSl, isNilP, isNilS, putAt, if_true, if_false, reduceCtorEq, Nat.reduceLeDiff, Nat.reduceEqDiff, Nat.reduceSub, Nat.reduceMul, Nat.reduceAdd]
  refine call_pure (Sp _) ?_
  simp -implicitDefEqProofs only [nat_neg, List.append_nil, ne_self, beq_self_eq_true, S0, S1, S2, S3, S4, S5, S6, S7, S8, S9, S10, S11, S12, S13, S14, S15, opv, opvs, eget, env0, setD, lenStr, lenSl, isNilP, isNilS, putAt, if_true, if_false, reduceCtorEq, Nat.reduceLeDiff, Nat.reduceEqDiff, Nat.reduceSub, Nat.reduceMul, Nat.reduceAdd]
  refine call_new (toRecSlotS (tRecSlotS a0) _ h0 (by omega)) ?_
  rintro u1 s1 j1 le1 k1 p1 w1
  have on1 := p1.one
  simp -implicitDefEqProofs only [nat_neg, List.append_nil, one_cells on1, on1, ne_self, beq_self_eq_true, S0, S1, S2, S3, S4, S5, S6, S7, S8, S9, S10, S11, S12, S13, S14, S15, opv, opvs, eget, env0, setD, lenStr, lenSl, isNilP, isNilS, putAt, if_true, if_false, reduceCtorEq, Nat.reduceLeDiff, Nat.reduceEqDiff, Nat.reduceSub, Nat.reduceMul, Nat.reduceAdd]
  refine call_new (toRecSlotS (tRecSlotS a1) _ h1 (by omega)) ?_
  rintro u2 s2 j2 le2 k2 p2 w2
  replace p1 := k2.own p1
  have on2 := p2.one
  simp -implicitDefEqProofs only [nat_neg, List.append_nil, one_cells on1, on1, one_cells on2, on2, ne_self, beq_self_eq_true, S0, S1, S2, S3, S4, S5, S6, S7, S8, S9, S10, S11, S12, S13, S14, S15, opv, opvs, eget, env0, setD, lenStr, lenSl, isNilP, isNilS, putAt, if_true, if_false, reduceCtorEq, Nat.reduceLeDiff, Nat.reduceEqDiff, Nat.reduceSub, Nat.reduceMul, Nat.reduceAdd]
  refine call_new (acalls_to Ip ⟨_, _, rfl, sees_lst p1 rfl (List.prefix_refl _), _, _, rfl, sees_lst p2 rfl (List.prefix_refl _), rfl⟩) ?_
  rintro u3 s3 j3 le3 k3 p3 w3
  replace p1 := k3.own p1
  replace p2 := k3.own p2
  have on3 := p3.one
  simp -implicitDefEqProofs only [nat_neg, List.append_nil, one_cells on1, on1, one_cells on2, on2, one_cells on3, on3, ne_self, beq_self_eq_true, S0, S1, S2, S3, S4, S5, S6, S7, S8, S9, S10, S11, S12, S13, S14, S15, opv, opvs, eget, env0, setD, lenStr, lenSl, isNilP, isNilS, putAt, if_true, if_false, reduceCtorEq, Nat.reduceLeDiff, Nat.reduceEqDiff, Nat.reduceSub, Nat.reduceMul, Nat.reduceAdd]
  refine call_bor (fun σ => eqRecSlotS t σ hT (by omega)) rfl ⟨_, _, rfl, sees_lst p3 rfl (List.prefix_refl _), _, _, rfl, seesA_t (by decide) hT, rfl⟩ ?_
  simp -implicitDefEqProofs only [nat_neg, List.append_nil, one_cells on1, on1, one_cells on2, on2, one_cells on3, on3, ne_self, beq_self_eq_true, S0, S1, S2, S3, S4, S5, S6, S7, S8, S9, S10, S11, S12, S13, S14, S15, opv, opvs, eget, env0, setD, lenStr, lenSl, isNilP, isNilS, putAt, if_true, if_false, reduceCtorEq, Nat.reduceLeDiff, Nat.reduceEqDiff, Nat.reduceSub, Nat.reduceMul, Nat.reduceAdd]
  refine call_pure (toF0 _) ?_
  simp -implicitDefEqProofs only [nat_neg, List.append_nil, one_cells on1, on1, one_cells on2, on2, one_cells on3, on3, ne_self, beq_self_eq_true, S0, S1, S2, S3, S4, S5, S6, S7, S8, S9, S10, S11, S12, S13, S14, S15, opv, opvs, eget, env0, setD, lenStr, lenSl, isNilP, isNilS, putAt, if_true, if_false, reduceCtorEq, Nat.reduceLeDiff, Nat.reduceEqDiff, Nat.reduceSub, Nat.reduceMul, Nat.reduceAdd]
  refine call_bor (fun σ => eqRecSlotS (tRecSlotS a0) σ h0 (by omega)) rfl ⟨_, _, rfl, sees_lst p1 rfl (List.prefix_refl _), _, _, rfl, seesA_t (by decide) h0, rfl⟩ ?_
  simp -implicitDefEqProofs only [nat_neg, List.append_nil, one_cells on1, on1, one_cells on2, on2, one_cells on3, on3, ne_self, beq_self_eq_true, S0, S1, S2, S3, S4, S5, S6, S7, S8, S9, S10, S11, S12, S13, S14, S15, opv, opvs, eget, env0, setD, lenStr, lenSl, isNilP, isNilS, putAt, if_true, if_false, reduceCtorEq, Nat.reduceLeDiff, Nat.reduceEqDiff, Nat.reduceSub, Nat.reduceMul, Nat.reduceAdd]
  refine call_pure (toF1 _) ?_
  simp -implicitDefEqProofs only [nat_neg, List.append_nil, one_cells on1, on1, one_cells on2, on2, one_cells on3, on3, ne_self, beq_self_eq_true, S0, S1, S2, S3, S4, S5, S6, S7, S8, S9, S10, S11, S12, S13, S14, S15, opv, opvs, eget, env0, setD, lenStr, lenSl, isNilP, isNilS, putAt, if_true, if_false, reduceCtorEq, Nat.reduceLeDiff, Nat.reduceEqDiff, Nat.reduceSub, Nat.reduceMul, Nat.reduceAdd]
  refine call_bor (fun σ => eqRecSlotS (tRecSlotS a1) σ h1 (by omega)) rfl ⟨_, _, rfl, sees_lst p2 rfl (List.prefix_refl _), _, _, rfl, seesA_t (by decide) h1, rfl⟩ ?_
  simp -implicitDefEqProofs only [nat_neg, List.append_nil, one_cells on1, on1, one_cells on2, on2, one_cells on3, on3, ne_self, beq_self_eq_true, S0, S1, S2, S3, S4, S5, S6, S7, S8, S9, S10, S11, S12, S13, S14, S15, opv, opvs, eget, env0, setD, lenStr, lenSl, isNilP, isNilS, putAt, if_true, if_false, reduceCtorEq, Nat.reduceLeDiff, Nat.reduceEqDiff, Nat.reduceSub, Nat.reduceMul, Nat.reduceAdd]
  have ub1 : (T.mk markTxt 1 (tRecSlotS a0)).2 ≤ 1 * 300000000 := by
    have := mk_ub (mt := markTxt) (t := (tRecSlotS a0)) (k := 1) (c := (.sl 2 shRecSlot)) (by decide) h0
    omega
  refine call_by (by rw [List.append_nil]; exact markRecSlotS (tRecSlotS a0) u1 j1 1 _ h0 (by omega) p1 w1.1 (Nat.le_refl _) (by omega)) ?_
  rintro r s4 ⟨rfl, q4, le4, kb4⟩
  have kb4' : Kb j1 s3 s4 := kb4
  replace p2 := kb4'.own p2 (wi_apart w2 w1 (by omega))
  replace p3 := kb4'.own p3 (wi_apart w3 w1 (by omega))
  simp -implicitDefEqProofs only [nat_neg, List.append_nil, one_cells on1, on1, one_cells on2, on2, one_cells on3, on3, ne_self, beq_self_eq_true, S0, S1, S2, S3, S4, S5, S6, S7, S8, S9, S10, S11, S12, S13, S14, S15, opv, opvs, eget, env0, setD, lenStr, lenSl, isNilP, isNilS, putAt, if_true, if_false, reduceCtorEq, Nat.reduceLeDiff, Nat.reduceEqDiff, Nat.reduceSub, Nat.reduceMul, Nat.reduceAdd]
  have ub2 : (T.mk markTxt ((T.mk markTxt 1 (tRecSlotS a0)).2) (tRecSlotS a1)).2 ≤ 2 * 300000000 := by
    have := mk_ub (mt := markTxt) (t := (tRecSlotS a1)) (k := ((T.mk markTxt 1 (tRecSlotS a0)).2)) (c := (.sl 2 shRecSlot)) (by decide) h1
    omega
  refine call_by (by rw [List.append_nil]; exact markRecSlotS (tRecSlotS a1) u2 j2 ((T.mk markTxt 1 (tRecSlotS a0)).2) _ h1 (by omega) p2 w2.1 (mk_pos (Nat.le_refl _)) (by omega)) ?_
  rintro r s5 ⟨rfl, q5, le5, kb5⟩
  have kb5' : Kb j2 s4 s5 := kb5
  replace p3 := kb5'.own p3 (wi_apart w3 w2 (by omega))
  simp -implicitDefEqProofs only [nat_neg, List.append_nil, one_cells on1, on1, one_cells on2, on2, one_cells on3, on3, ne_self, beq_self_eq_true, S0, S1, S2, S3, S4, S5, S6, S7, S8, S9, S10, S11, S12, S13, S14, S15, opv, opvs, eget, env0, setD, lenStr, lenSl, isNilP, isNilS, putAt, if_true, if_false, reduceCtorEq, Nat.reduceLeDiff, Nat.reduceEqDiff, Nat.reduceSub, Nat.reduceMul, Nat.reduceAdd]
  refine call_bor (fun σ => eqRecSlotS t σ hT (by omega)) rfl ⟨_, _, rfl, sees_lst p3 rfl (List.prefix_refl _), _, _, rfl, seesA_t (by decide) hT, rfl⟩ ?_
  simp -implicitDefEqProofs only [nat_neg, List.append_nil, one_cells on1, on1, one_cells on2, on2, one_cells on3, on3, ne_self, beq_self_eq_true, S0, S1, S2, S3, S4, S5, S6, S7, S8, S9, S10, S11, S12, S13, S14, S15, opv, opvs, eget, env0, setD, lenStr, lenSl, isNilP, isNilS, putAt, if_true, if_false, reduceCtorEq, Nat.reduceLeDiff, Nat.reduceEqDiff, Nat.reduceSub, Nat.reduceMul, Nat.reduceAdd]
  refine call_by (by rw [List.append_nil]; exact markRecSlotS t u3 j3 1 _ hT (by omega) p3 w3.1 (Nat.le_refl _) hmt) ?_
  rintro r s6 ⟨rfl, q6, le6, kb6⟩
  have kb6' : Kb j3 s5 s6 := kb6
  have Hp := fun σ => heldRecSlotS t 1 σ hT (by omega) (Nat.le_refl _) hmt
  simp -implicitDefEqProofs only [nat_neg, List.append_nil, one_cells on1, on1, one_cells on2, on2, one_cells on3, on3, ne_self, beq_self_eq_true, S0, S1, S2, S3, S4, S5, S6, S7, S8, S9, S10, S11, S12, S13, S14, S15, opv, opvs, eget, env0, setD, lenStr, lenSl, isNilP, isNilS, putAt, if_true, if_false, reduceCtorEq, Nat.reduceLeDiff, Nat.reduceEqDiff, Nat.reduceSub, Nat.reduceMul, Nat.reduceAdd]
  refine call_bor (y := .t (.int .i64 ((T.mk markTxt 1 t).2 : Nat))) (fun σ => Hp σ) rfl ⟨_, _, rfl, sees_lst q6 rfl (List.prefix_refl _), _, _, rfl, sees_one rfl, rfl⟩ ?_
  simp -implicitDefEqProofs only [nat_neg, List.append_nil, one_cells on1, on1, one_cells on2, on2, one_cells on3, on3, ne_self, beq_self_eq_true, S0, S1, S2, S3, S4, S5, S6, S7, S8, S9, S10, S11, S12, S13, S14, S15, opv, opvs, eget, env0, setD, lenStr, lenSl, isNilP, isNilS, putAt, if_true, if_false, reduceCtorEq, Nat.reduceLeDiff, Nat.reduceEqDiff, Nat.reduceSub, Nat.reduceMul, Nat.reduceAdd]
  refine call_pure (toF0 _) ?_
  simp -implicitDefEqProofs only [nat_neg, List.append_nil, one_cells on1, on1, one_cells on2, on2, one_cells on3, on3, ne_self, beq_self_eq_true, S0, S1, S2, S3, S4, S5, S6, S7, S8, S9, S10, S11, S12, S13, S14, S15, opv, opvs, eget, env0, setD, lenStr, lenSl, isNilP, isNilS, putAt, if_true, if_false, reduceCtorEq, Nat.reduceLeDiff, Nat.reduceEqDiff, Nat.reduceSub, Nat.reduceMul, Nat.reduceAdd]
  refine call_pure (toF1 _) ?_
  simp -implicitDefEqProofs only [nat_neg, List.append_nil, one_cells on1, on1, one_cells on2, on2, one_cells on3, on3, ne_self, beq_self_eq_true, S0, S1, S2, S3, S4, S5, S6, S7, S8, S9, S10, S11, S12, S13, S14, S15, opv, opvs, eget, env0, setD, lenStr, lenSl, isNilP, isNilS, putAt, if_true, if_false, reduceCtorEq, Nat.reduceLeDiff, Nat.reduceEqDiff, Nat.reduceSub, Nat.reduceMul, Nat.reduceAdd]
  refine call_pure (IpF _) ?_
  simp -implicitDefEqProofs only [nat_neg, List.append_nil, one_cells on1, on1, one_cells on2, on2, one_cells on3, on3, ne_self, beq_self_eq_true, S0, S1, S2, S3, S4, S5, S6, S7, S8, S9, S10, S11, S12, S13, S14, S15, opv, opvs, eget, env0, setD, lenStr, lenSl, isNilP, isNilS, putAt, if_true, if_false, reduceCtorEq, Nat.reduceLeDiff, Nat.reduceEqDiff, Nat.reduceSub, Nat.reduceMul, Nat.reduceAdd]
  refine call_pure (eqRecSlotS t _ hT (by omega)) ?_
  simp -implicitDefEqProofs only [nat_neg, List.append_nil, one_cells on1, on1, one_cells on2, on2, one_cells on3, on3, ne_self, beq_self_eq_true, S0, S1, S2, S3, S4, S5, S6, S7, S8, S9, S10, S11, S12, S13, S14, S15, opv, opvs, eget, env0, setD, lenStr, lenSl, isNilP, isNilS, putAt, if_true, if_false, reduceCtorEq, Nat.reduceLeDiff, Nat.reduceEqDiff, Nat.reduceSub, Nat.reduceMul, Nat.reduceAdd]
  refine call_bor (y := .t (.int .i64 ((T.mk markTxt 1 t).2 : Nat))) (fun σ => Hp σ) rfl ⟨_, _, rfl, sees_lst q6 rfl (List.prefix_refl _), _, _, rfl, sees_one rfl, rfl⟩ ?_
  simp -implicitDefEqProofs only [nat_neg, List.append_nil, one_cells on1, on1, one_cells on2, on2, one_cells on3, on3, ne_self, beq_self_eq_true, S0, S1, S2, S3, S4, S5, S6, S7, S8, S9, S10, S11, S12, S13, S14, S15, opv, opvs, eget, env0, setD, lenStr, lenSl, isNilP, isNilS, putAt, if_true, if_false, reduceCtorEq, Nat.reduceLeDiff, Nat.reduceEqDiff, Nat.reduceSub, Nat.reduceMul, Nat.reduceAdd]
  refine fin_keep ?_ rfl
  omega
end Go.Proofs.Ytleilaipdhmgeaa.LRecMerge
