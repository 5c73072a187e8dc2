/- FnExactRecNewWorld: what the law's code does: it returns true. Conditions: none. -/
import Derived.Test.YtleilaipdhmgeaaRecNewWorld
import Derived.Test.YtleilaipdhmgeaaAb4
set_option linter.unusedSimpArgs false
set_option linter.unusedVariables false
set_option linter.defProp false
open Go Go.Ab
set_option maxHeartbeats 4000000
namespace Go.Proofs.Ytleilaipdhmgeaa.LRecNewWorld
open Go.Proofs.Ytleilaipdhmgeaa.W
def c_laws_FnExactRecNewWorld : C := (.seq (.ops [⟨(some 2), none, (.mv (.c (.t (.bool false))))⟩]) (.seq (.ops [⟨(some 8), none, (.mv (.t 0))⟩, ⟨(some 9), none, (.call (.c (.fn (.func 47) [])) [(.t 8)])⟩, ⟨(some 3), none, (.new [.nils, .nils, .nils])⟩, ⟨none, none, (.store 3 (.t 3) (.t 9))⟩]) (.seq (.ops [⟨(some 10), none, (.mv (.t 0))⟩, ⟨(some 11), none, (.call (.c (.fn (.func 48) [])) [(.t 10)])⟩, ⟨(some 4), none, (.new [.nils, .nils, .nils])⟩, ⟨none, none, (.store 3 (.t 4) (.t 11))⟩]) (.seq (.seq (.ops [⟨(some 12), none, (.load (some 3) (.t 4))⟩, ⟨(some 13), none, (.load (some 3) (.t 3))⟩, ⟨(some 14), none, (.call (.c (.fn (.func 49) [])) [(.t 12), (.t 13)])⟩, ⟨(some 15), none, (.un .not (.t 14))⟩]) (.cond (.t 15) (.seq (.ops [⟨(some 2), none, (.mv (.c (.t (.bool false))))⟩]) .ret) .skip)) (.seq (.ops [⟨(some 5), none, (.mv (.c (.t (.int .i64 1))))⟩]) (.seq (.ops [⟨(some 16), none, (.load (some 3) (.t 4))⟩, ⟨(some 17), none, (.mv (.t 5))⟩, ⟨(some 18), none, (.call (.c (.fn (.func 50) [])) [(.t 16), (.t 17)])⟩, ⟨(some 5), none, (.mv (.t 18))⟩]) (.seq (.ops [⟨(some 6), none, (.mv (.c (.t (.int .i64 1))))⟩]) (.seq (.ops [⟨(some 19), none, (.load (some 3) (.t 4))⟩, ⟨(some 20), none, (.mv (.t 6))⟩, ⟨(some 21), none, (.call (.c (.fn (.func 51) [])) [(.t 19), (.t 20)])⟩, ⟨(some 6), none, (.mv (.t 21))⟩]) (.seq (.seq (.ops [⟨(some 22), none, (.mv (.t 6))⟩, ⟨(some 23), none, (.bin .lss (.t 22) (.c (.t (.int .i64 0))))⟩]) (.cond (.t 23) (.seq (.ops [⟨(some 2), none, (.mv (.c (.t (.bool false))))⟩]) .ret) .skip)) (.seq (.seq (.ops [⟨(some 24), none, (.mv (.t 6))⟩, ⟨(some 25), none, (.mv (.t 5))⟩, ⟨(some 26), none, (.bin .neq (.t 24) (.t 25))⟩]) (.cond (.t 26) (.seq (.ops [⟨(some 2), none, (.mv (.c (.t (.bool false))))⟩]) .ret) .skip)) (.seq (.ops [⟨(some 27), none, (.mv (.t 0))⟩, ⟨(some 28), none, (.call (.c (.fn (.func 48) [])) [(.t 27)])⟩, ⟨(some 7), none, (.new [.nils, .nils, .nils])⟩, ⟨none, none, (.store 3 (.t 7) (.t 28))⟩]) (.seq (.seq (.ops [⟨(some 29), none, (.load (some 3) (.t 7))⟩, ⟨(some 30), none, (.load (some 3) (.t 3))⟩, ⟨(some 31), none, (.call (.c (.fn (.func 49) [])) [(.t 29), (.t 30)])⟩, ⟨(some 32), none, (.un .not (.t 31))⟩]) (.cond (.t 32) (.seq (.ops [⟨(some 2), none, (.mv (.c (.t (.bool false))))⟩]) .ret) .skip)) (.seq (.ops [⟨(some 6), none, (.mv (.c (.t (.int .i64 1))))⟩]) (.seq (.ops [⟨(some 33), none, (.load (some 3) (.t 4))⟩, ⟨(some 34), none, (.mv (.t 6))⟩, ⟨(some 35), none, (.call (.c (.fn (.func 51) [])) [(.t 33), (.t 34)])⟩, ⟨(some 6), none, (.mv (.t 35))⟩]) (.seq (.seq (.ops [⟨(some 36), none, (.mv (.t 6))⟩, ⟨(some 37), none, (.bin .lss (.t 36) (.c (.t (.int .i64 0))))⟩]) (.cond (.t 37) (.seq (.ops [⟨(some 2), none, (.mv (.c (.t (.bool false))))⟩]) .ret) .skip)) (.seq (.seq (.ops [⟨(some 38), none, (.mv (.t 6))⟩, ⟨(some 39), none, (.mv (.t 5))⟩, ⟨(some 40), none, (.bin .neq (.t 38) (.t 39))⟩]) (.cond (.t 40) (.seq (.ops [⟨(some 2), none, (.mv (.c (.t (.bool false))))⟩]) .ret) .skip)) (.seq (.ops [⟨(some 2), none, (.mv (.c (.t (.bool true))))⟩]) .ret)))))))))))))))))
theorem k_laws_FnExactRecNewWorld : comp Try.prog 41 (Try.f9.body.getD .skip) = some c_laws_FnExactRecNewWorld := by kernel_rfl

theorem lawRecNewWorld (a0 : Int) (h0 : i64r a0) (σ : Store) : ACalls Try.prog 9 [.t (.int .i64 a0)] σ fun r _ => r = .t (.bool true) := by
  refine acalls_of Try.func9 (by decide +kernel) (code := Try.f9.body.getD .skip) (n := 41) (c := c_laws_FnExactRecNewWorld) (rs := [(.tmp 2)]) rfl rfl k_laws_FnExactRecNewWorld (by kernel_rfl) (by simp) (fun hσ => ?_)
  try simp only [maxLen] at *
  have fin : ∀ {τ : Store}, retV σ.length (fun r _ => r = .t (.bool true)) (σ ++ τ) (some [.t (.bool true)]) := ret_same rfl hσ rfl rfl
  have fin0 : retV σ.length (fun r _ => r = .t (.bool true)) σ (some [.t (.bool true)]) := ret_same0 rfl rfl
  simp -implicitDefEqProofs only [c_laws_FnExactRecNewWorld, S0, S1, S2, S3, S4, S5, S6, S7, S8, S9, S10, S11, S12, S13, S14, S15, opv, opvs, eget, env0, setD, lenStr, lenSl, isNilP, isNilS, putAt, if_true, if_false, reduceCtorEq, Nat.reduceLeDiff, Nat.reduceEqDiff, Nat.reduceSub, Nat.reduceMul, Nat.reduceAdd]
  obtain ⟨hT, hzt⟩ := res_RecNewWorld a0 h0
  have Sp := fun σ => specF_RecNewWorld a0 h0 σ
  have Ip := fun σ => implO_RecNewWorld a0 h0 σ
  generalize (resT_RecNewWorld a0) = t at hT hzt Sp Ip
  have lt : t.length = 3 := T.isL_len hT
  have hmt : (T.mkVL markTxt 1 t).2 < 4611686018427387904 := by
    have := mkVL_ub (mt := markTxt) (ts := t) (k := 1) (cs := shRecWorld) (by decide) hT
    omega
  have IpF := fun σ => acalls_frzTL (Ip σ)
  have tk := take_all (len_t lt)
  have on := ones_t t
  have lm := len_t lt
  try simp -implicitDefEqProofs only [nat_neg, List.append_nil, tk, on, lm, ne_self, beq_self_eq_true, S0, S1, S2, S3, S4, S5, S6, S7, S8, S9, S10, S11, S12, S13, S14, S15, opv, opvs, eget, env0, setD, lenStr, lenSl, isNilP, isNilS, putAt, if_true, if_false, reduceCtorEq, Nat.reduceLeDiff, Nat.reduceEqDiff, Nat.reduceSub, Nat.reduceMul, Nat.reduceAdd]
  refine call_pure (Sp _) ?_
  simp -implicitDefEqProofs only [nat_neg, List.append_nil, tk, on, lm, ne_self, beq_self_eq_true, S0, S1, S2, S3, S4, S5, S6, S7, S8, S9, S10, S11, S12, S13, S14, S15, opv, opvs, eget, env0, setD, lenStr, lenSl, isNilP, isNilS, putAt, if_true, if_false, reduceCtorEq, Nat.reduceLeDiff, Nat.reduceEqDiff, Nat.reduceSub, Nat.reduceMul, Nat.reduceAdd]
  obtain ⟨s1, es1⟩ : ∃ s, s = σ ++ [Go.Ab.Obj.box (t.map V.t)] := ⟨_, rfl⟩
  have kp1 : Kp σ s1 := by rw [es1]; exact Kp.app _ _
  have ln1 : s1.length = σ.length + 1 := by rw [es1]; simp
  have e1 : s1[σ.length]? = some (.box (t.map V.t)) := by rw [es1]; simp
  rw [← es1]
  try simp -implicitDefEqProofs only [nat_neg, List.append_nil, tk, on, lm, e1, ne_self, beq_self_eq_true, S0, S1, S2, S3, S4, S5, S6, S7, S8, S9, S10, S11, S12, S13, S14, S15, opv, opvs, eget, env0, setD, lenStr, lenSl, isNilP, isNilS, putAt, if_true, if_false, reduceCtorEq, Nat.reduceLeDiff, Nat.reduceEqDiff, Nat.reduceSub, Nat.reduceMul, Nat.reduceAdd]
  refine call_newL (acalls_toL Ip ⟨_, _, rfl, sees_one rfl, rfl⟩) ?_
  rintro u2 s2 j2 le2 k2 p2 w2
  replace e1 := k2.box e1
  have l2 : u2.length = 3 := by rw [p2.len]; first | rfl | exact lt
  have tk2 := take_all l2
  have on2 := p2.ones
  simp -implicitDefEqProofs only [nat_neg, List.append_nil, tk, on, lm, e1, l2, tk2, on2, ne_self, beq_self_eq_true, S0, S1, S2, S3, S4, S5, S6, S7, S8, S9, S10, S11, S12, S13, S14, S15, opv, opvs, eget, env0, setD, lenStr, lenSl, isNilP, isNilS, putAt, if_true, if_false, reduceCtorEq, Nat.reduceLeDiff, Nat.reduceEqDiff, Nat.reduceSub, Nat.reduceMul, Nat.reduceAdd]
  obtain ⟨s3, es3⟩ : ∃ s, s = s2 ++ [Go.Ab.Obj.box u2] := ⟨_, rfl⟩
  have kp3 : Kp s2 s3 := by rw [es3]; exact Kp.app _ _
  have ln3 : s3.length = s2.length + 1 := by rw [es3]; simp
  have e3 : s3[s2.length]? = some (.box u2) := by rw [es3]; simp
  rw [← es3]
  replace e1 := kp3.box e1
  replace p2 := kp3.ownL p2
  try simp -implicitDefEqProofs only [nat_neg, List.append_nil, tk, on, lm, e1, l2, tk2, on2, e3, ne_self, beq_self_eq_true, S0, S1, S2, S3, S4, S5, S6, S7, S8, S9, S10, S11, S12, S13, S14, S15, opv, opvs, eget, env0, setD, lenStr, lenSl, isNilP, isNilS, putAt, if_true, if_false, reduceCtorEq, Nat.reduceLeDiff, Nat.reduceEqDiff, Nat.reduceSub, Nat.reduceMul, Nat.reduceAdd]
  refine call_bor (fun σ => eqRecWorld t σ hT (by omega)) rfl ⟨_, _, rfl, sees_agg p2 rfl (List.prefix_refl _), _, _, rfl, seesA_ts (by decide) hT rfl, rfl⟩ ?_
  simp -implicitDefEqProofs only [nat_neg, List.append_nil, tk, on, lm, e1, l2, tk2, on2, e3, ne_self, beq_self_eq_true, S0, S1, S2, S3, S4, S5, S6, S7, S8, S9, S10, S11, S12, S13, S14, S15, opv, opvs, eget, env0, setD, lenStr, lenSl, isNilP, isNilS, putAt, if_true, if_false, reduceCtorEq, Nat.reduceLeDiff, Nat.reduceEqDiff, Nat.reduceSub, Nat.reduceMul, Nat.reduceAdd]
  refine call_by (by rw [List.append_nil]; exact markRecWorld t u2 j2 1 _ hT (by omega) p2 w2.1 (Nat.le_refl _) hmt) ?_
  rintro r s4 ⟨rfl, q4, le4, kb4⟩
  have kb4' : Kb j2 s3 s4 := kb4
  replace e1 := kb4'.box e1 (wi_out w2 (by omega))
  replace e3 := kb4'.box e3 (wi_out w2 (by omega))
  have Hp := fun σ => heldRecWorld t 1 σ hT (by omega) (Nat.le_refl _) hmt
  simp -implicitDefEqProofs only [nat_neg, List.append_nil, tk, on, lm, e1, l2, tk2, on2, e3, ne_self, beq_self_eq_true, S0, S1, S2, S3, S4, S5, S6, S7, S8, S9, S10, S11, S12, S13, S14, S15, opv, opvs, eget, env0, setD, lenStr, lenSl, isNilP, isNilS, putAt, if_true, if_false, reduceCtorEq, Nat.reduceLeDiff, Nat.reduceEqDiff, Nat.reduceSub, Nat.reduceMul, Nat.reduceAdd]
  refine call_bor (y := .t (.int .i64 ((T.mkVL markTxt 1 t).2 : Nat))) (fun σ => Hp σ) rfl ⟨_, _, rfl, sees_agg q4 rfl (List.prefix_refl _), _, _, rfl, sees_one rfl, rfl⟩ ?_
  simp -implicitDefEqProofs only [nat_neg, List.append_nil, tk, on, lm, e1, l2, tk2, on2, e3, ne_self, beq_self_eq_true, S0, S1, S2, S3, S4, S5, S6, S7, S8, S9, S10, S11, S12, S13, S14, S15, opv, opvs, eget, env0, setD, lenStr, lenSl, isNilP, isNilS, putAt, if_true, if_false, reduceCtorEq, Nat.reduceLeDiff, Nat.reduceEqDiff, Nat.reduceSub, Nat.reduceMul, Nat.reduceAdd]
  refine call_pure (IpF _) ?_
  simp -implicitDefEqProofs only [nat_neg, List.append_nil, tk, on, lm, e1, l2, tk2, on2, e3, ne_self, beq_self_eq_true, S0, S1, S2, S3, S4, S5, S6, S7, S8, S9, S10, S11, S12, S13, S14, S15, opv, opvs, eget, env0, setD, lenStr, lenSl, isNilP, isNilS, putAt, if_true, if_false, reduceCtorEq, Nat.reduceLeDiff, Nat.reduceEqDiff, Nat.reduceSub, Nat.reduceMul, Nat.reduceAdd]
  obtain ⟨s5, es5⟩ : ∃ s, s = s4 ++ [Go.Ab.Obj.box (t.map V.t)] := ⟨_, rfl⟩
  have kp5 : Kp s4 s5 := by rw [es5]; exact Kp.app _ _
  have ln5 : s5.length = s4.length + 1 := by rw [es5]; simp
  have e5 : s5[s4.length]? = some (.box (t.map V.t)) := by rw [es5]; simp
  rw [← es5]
  replace e1 := kp5.box e1
  replace e3 := kp5.box e3
  replace q4 := kp5.ownL q4
  try simp -implicitDefEqProofs only [nat_neg, List.append_nil, tk, on, lm, e1, l2, tk2, on2, e3, e5, ne_self, beq_self_eq_true, S0, S1, S2, S3, S4, S5, S6, S7, S8, S9, S10, S11, S12, S13, S14, S15, opv, opvs, eget, env0, setD, lenStr, lenSl, isNilP, isNilS, putAt, if_true, if_false, reduceCtorEq, Nat.reduceLeDiff, Nat.reduceEqDiff, Nat.reduceSub, Nat.reduceMul, Nat.reduceAdd]
  refine call_pure (eqRecWorld t _ hT (by omega)) ?_
  simp -implicitDefEqProofs only [nat_neg, List.append_nil, tk, on, lm, e1, l2, tk2, on2, e3, e5, ne_self, beq_self_eq_true, S0, S1, S2, S3, S4, S5, S6, S7, S8, S9, S10, S11, S12, S13, S14, S15, opv, opvs, eget, env0, setD, lenStr, lenSl, isNilP, isNilS, putAt, if_true, if_false, reduceCtorEq, Nat.reduceLeDiff, Nat.reduceEqDiff, Nat.reduceSub, Nat.reduceMul, Nat.reduceAdd]
  refine call_bor (y := .t (.int .i64 ((T.mkVL markTxt 1 t).2 : Nat))) (fun σ => Hp σ) rfl ⟨_, _, rfl, sees_agg q4 rfl (List.prefix_refl _), _, _, rfl, sees_one rfl, rfl⟩ ?_
  simp -implicitDefEqProofs only [nat_neg, List.append_nil, tk, on, lm, e1, l2, tk2, on2, e3, e5, ne_self, beq_self_eq_true, S0, S1, S2, S3, S4, S5, S6, S7, S8, S9, S10, S11, S12, S13, S14, S15, opv, opvs, eget, env0, setD, lenStr, lenSl, isNilP, isNilS, putAt, if_true, if_false, reduceCtorEq, Nat.reduceLeDiff, Nat.reduceEqDiff, Nat.reduceSub, Nat.reduceMul, Nat.reduceAdd]
  refine fin_keep ?_ rfl
  omega
end Go.Proofs.Ytleilaipdhmgeaa.LRecNewWorld
