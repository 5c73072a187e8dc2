/- FnExactSheetWords: what the law's code does: it returns true. Conditions: none. -/
import Derived.Test.YtkppdeobinefbaaSheetWordsR
import Derived.Test.YtkppdeobinefbaaMarkSheet
import Derived.Test.YtkppdeobinefbaaAb4
set_option linter.unusedSimpArgs false
set_option linter.unusedVariables false
set_option linter.defProp false
open Go Go.Ab
set_option maxHeartbeats 4000000
namespace Go.Proofs.Ytkppdeobinefbaa.LSheetWords
open Go.Proofs.Ytkppdeobinefbaa.W
def c_laws_FnExactSheetWords : C := (.seq (.ops [⟨(some 2), none, (.mv (.c (.t (.bool false))))⟩]) (.seq (.seq (.ops [⟨(some 8), none, (.mv (.t 0))⟩, ⟨(some 9), none, (.len true (.t 8))⟩, ⟨(some 10), none, (.bin .gtr (.t 9) (.c (.t (.int .i64 1048576))))⟩]) (.cond (.t 10) (.seq (.ops [⟨(some 2), none, (.mv (.c (.t (.bool true))))⟩]) .ret) .skip)) (.seq (.ops [⟨(some 11), none, (.mv (.t 0))⟩, ⟨(some 12), none, (.call (.c (.fn (.func 8) [])) [(.t 11)])⟩, ⟨(some 3), none, (.new [.nils, (.t (.bool false))])⟩, ⟨none, none, (.store 2 (.t 3) (.t 12))⟩]) (.seq (.ops [⟨(some 13), none, (.mv (.t 0))⟩, ⟨(some 14), none, (.call (.c (.fn (.func 9) [])) [(.t 13)])⟩, ⟨(some 4), none, (.new [.nils, (.t (.bool false))])⟩, ⟨none, none, (.store 2 (.t 4) (.t 14))⟩]) (.seq (.seq (.ops [⟨(some 15), none, (.load (some 2) (.t 4))⟩, ⟨(some 16), none, (.load (some 2) (.t 3))⟩, ⟨(some 17), none, (.call (.c (.fn (.func 10) [])) [(.t 15), (.t 16)])⟩, ⟨(some 18), none, (.un .not (.t 17))⟩]) (.cond (.t 18) (.seq (.ops [⟨(some 2), none, (.mv (.c (.t (.bool false))))⟩]) .ret) .skip)) (.seq (.ops [⟨(some 5), none, (.mv (.c (.t (.int .i64 1))))⟩]) (.seq (.ops [⟨(some 19), none, (.load (some 2) (.t 4))⟩, ⟨(some 20), none, (.mv (.t 5))⟩, ⟨(some 21), none, (.call (.c (.fn (.func 11) [])) [(.t 19), (.t 20)])⟩, ⟨(some 5), none, (.mv (.t 21))⟩]) (.seq (.ops [⟨(some 6), none, (.mv (.c (.t (.int .i64 1))))⟩]) (.seq (.ops [⟨(some 22), none, (.load (some 2) (.t 4))⟩, ⟨(some 23), none, (.mv (.t 6))⟩, ⟨(some 24), none, (.call (.c (.fn (.func 12) [])) [(.t 22), (.t 23)])⟩, ⟨(some 6), none, (.mv (.t 24))⟩]) (.seq (.seq (.ops [⟨(some 25), none, (.mv (.t 6))⟩, ⟨(some 26), none, (.bin .lss (.t 25) (.c (.t (.int .i64 0))))⟩]) (.cond (.t 26) (.seq (.ops [⟨(some 2), none, (.mv (.c (.t (.bool false))))⟩]) .ret) .skip)) (.seq (.seq (.ops [⟨(some 27), none, (.mv (.t 6))⟩, ⟨(some 28), none, (.mv (.t 5))⟩, ⟨(some 29), none, (.bin .neq (.t 27) (.t 28))⟩]) (.cond (.t 29) (.seq (.ops [⟨(some 2), none, (.mv (.c (.t (.bool false))))⟩]) .ret) .skip)) (.seq (.ops [⟨(some 30), none, (.mv (.t 0))⟩, ⟨(some 31), none, (.call (.c (.fn (.func 9) [])) [(.t 30)])⟩, ⟨(some 7), none, (.new [.nils, (.t (.bool false))])⟩, ⟨none, none, (.store 2 (.t 7) (.t 31))⟩]) (.seq (.seq (.ops [⟨(some 32), none, (.load (some 2) (.t 7))⟩, ⟨(some 33), none, (.load (some 2) (.t 3))⟩, ⟨(some 34), none, (.call (.c (.fn (.func 10) [])) [(.t 32), (.t 33)])⟩, ⟨(some 35), none, (.un .not (.t 34))⟩]) (.cond (.t 35) (.seq (.ops [⟨(some 2), none, (.mv (.c (.t (.bool false))))⟩]) .ret) .skip)) (.seq (.ops [⟨(some 6), none, (.mv (.c (.t (.int .i64 1))))⟩]) (.seq (.ops [⟨(some 36), none, (.load (some 2) (.t 4))⟩, ⟨(some 37), none, (.mv (.t 6))⟩, ⟨(some 38), none, (.call (.c (.fn (.func 12) [])) [(.t 36), (.t 37)])⟩, ⟨(some 6), none, (.mv (.t 38))⟩]) (.seq (.seq (.ops [⟨(some 39), none, (.mv (.t 6))⟩, ⟨(some 40), none, (.bin .lss (.t 39) (.c (.t (.int .i64 0))))⟩]) (.cond (.t 40) (.seq (.ops [⟨(some 2), none, (.mv (.c (.t (.bool false))))⟩]) .ret) .skip)) (.seq (.seq (.ops [⟨(some 41), none, (.mv (.t 6))⟩, ⟨(some 42), none, (.mv (.t 5))⟩, ⟨(some 43), none, (.bin .neq (.t 41) (.t 42))⟩]) (.cond (.t 43) (.seq (.ops [⟨(some 2), none, (.mv (.c (.t (.bool false))))⟩]) .ret) .skip)) (.seq (.ops [⟨(some 2), none, (.mv (.c (.t (.bool true))))⟩]) .ret))))))))))))))))))
theorem k_laws_FnExactSheetWords : comp Try.prog 44 (Try.f4.body.getD .skip) = some c_laws_FnExactSheetWords := by kernel_rfl

theorem lawSheetWords (a0 : List UInt8) (h0 : a0.length ≤ maxLen) (σ : Store) : ACalls Try.prog 4 [.t (.str a0)] σ fun r _ => r = .t (.bool true) := by
  refine acalls_of Try.func4 (by decide +kernel) (code := Try.f4.body.getD .skip) (n := 44) (c := c_laws_FnExactSheetWords) (rs := [(.tmp 2)]) rfl rfl k_laws_FnExactSheetWords (by kernel_rfl) (by simp) (fun hσ => ?_)
  try simp only [maxLen] at *
  have fin : ∀ {τ : Store}, retV σ.length (fun r _ => r = .t (.bool true)) (σ ++ τ) (some [.t (.bool true)]) := ret_same rfl hσ rfl rfl
  have fin0 : retV σ.length (fun r _ => r = .t (.bool true)) σ (some [.t (.bool true)]) := ret_same0 rfl rfl
  simp -implicitDefEqProofs only [c_laws_FnExactSheetWords, S0, S1, S2, S3, S4, S5, S6, S7, S8, S9, S10, S11, S12, S13, S14, S15, S16, opv, opvs, eget, env0, setD, lenStr, lenSl, isNilP, isNilS, putAt, if_true, if_false, reduceCtorEq, Nat.reduceLeDiff, Nat.reduceEqDiff, Nat.reduceSub, Nat.reduceMul, Nat.reduceAdd]
  refine cond_split (fun g0 => ?_) (fun g0 => ?_)
  · simp -implicitDefEqProofs only [S0, S1, S2, S3, S4, S5, S6, S7, S8, S9, S10, S11, S12, S13, S14, S15, S16, opv, opvs, eget, env0, setD, lenStr, lenSl, isNilP, isNilS, putAt, if_true, if_false, reduceCtorEq, Nat.reduceLeDiff, Nat.reduceEqDiff, Nat.reduceSub, Nat.reduceMul, Nat.reduceAdd]
    first | exact fin | exact fin0
  replace g0 : a0.length ≤ 1048576 := by simp at g0; omega
  simp -implicitDefEqProofs only [nat_neg, List.append_nil, ne_self, beq_self_eq_true, S0, S1, S2, S3, S4, S5, S6, S7, S8, S9, S10, S11, S12, S13, S14, S15, S16, opv, opvs, eget, env0, setD, lenStr, lenSl, isNilP, isNilS, putAt, if_true, if_false, reduceCtorEq, Nat.reduceLeDiff, Nat.reduceEqDiff, Nat.reduceSub, Nat.reduceMul, Nat.reduceAdd]
  have o0 : a0.length ≤ 1048576 := by omega
  obtain ⟨hT, hzt⟩ := res_SheetWords a0 o0
  have Sp := fun σ => specF_SheetWords a0 o0 σ
  have Ip := fun σ => implO_SheetWords a0 o0 σ
  generalize (resT_SheetWords a0) = t at hT hzt Sp Ip
  have lt : t.length = 2 := T.isL_len hT
  have hmt : (T.mkVL markTxt 1 t).2 < 4611686018427387904 := by
    have := mkVL_ub (mt := markTxt) (ts := t) (k := 1) (cs := shSheetCut) (by decide) hT
    omega
  have IpF := fun σ => acalls_frzTL (Ip σ)
  have tk := take_all (len_t lt)
  have on := ones_t t
  have lm := len_t lt
  try simp -implicitDefEqProofs only [nat_neg, List.append_nil, tk, on, lm, ne_self, beq_self_eq_true, S0, S1, S2, S3, S4, S5, S6, S7, S8, S9, S10, S11, S12, S13, S14, S15, S16, opv, opvs, eget, env0, setD, lenStr, lenSl, isNilP, isNilS, putAt, if_true, if_false, reduceCtorEq, Nat.reduceLeDiff, Nat.reduceEqDiff, Nat.reduceSub, Nat.reduceMul, Nat.reduceAdd]
  refine call_pure (Sp _) ?_
  simp -implicitDefEqProofs only [nat_neg, List.append_nil, tk, on, lm, ne_self, beq_self_eq_true, S0, S1, S2, S3, S4, S5, S6, S7, S8, S9, S10, S11, S12, S13, S14, S15, S16, opv, opvs, eget, env0, setD, lenStr, lenSl, isNilP, isNilS, putAt, if_true, if_false, reduceCtorEq, Nat.reduceLeDiff, Nat.reduceEqDiff, Nat.reduceSub, Nat.reduceMul, Nat.reduceAdd]
  obtain ⟨s1, es1⟩ : ∃ s, s = σ ++ [Go.Ab.Obj.box (t.map V.t)] := ⟨_, rfl⟩
  have kp1 : Kp σ s1 := by rw [es1]; exact Kp.app _ _
  have ln1 : s1.length = σ.length + 1 := by rw [es1]; simp
  have e1 : s1[σ.length]? = some (.box (t.map V.t)) := by rw [es1]; simp
  rw [← es1]
  try simp -implicitDefEqProofs only [nat_neg, List.append_nil, tk, on, lm, e1, ne_self, beq_self_eq_true, S0, S1, S2, S3, S4, S5, S6, S7, S8, S9, S10, S11, S12, S13, S14, S15, S16, opv, opvs, eget, env0, setD, lenStr, lenSl, isNilP, isNilS, putAt, if_true, if_false, reduceCtorEq, Nat.reduceLeDiff, Nat.reduceEqDiff, Nat.reduceSub, Nat.reduceMul, Nat.reduceAdd]
  refine call_newL (acalls_toL Ip ⟨_, _, rfl, sees_one rfl, rfl⟩) ?_
  rintro u2 s2 j2 le2 k2 p2 w2
  replace e1 := k2.box e1
  have l2 : u2.length = 2 := by rw [p2.len]; first | rfl | exact lt
  have tk2 := take_all l2
  have on2 := p2.ones
  simp -implicitDefEqProofs only [nat_neg, List.append_nil, tk, on, lm, e1, l2, tk2, on2, ne_self, beq_self_eq_true, S0, S1, S2, S3, S4, S5, S6, S7, S8, S9, S10, S11, S12, S13, S14, S15, S16, opv, opvs, eget, env0, setD, lenStr, lenSl, isNilP, isNilS, putAt, if_true, if_false, reduceCtorEq, Nat.reduceLeDiff, Nat.reduceEqDiff, Nat.reduceSub, Nat.reduceMul, Nat.reduceAdd]
  obtain ⟨s3, es3⟩ : ∃ s, s = s2 ++ [Go.Ab.Obj.box u2] := ⟨_, rfl⟩
  have kp3 : Kp s2 s3 := by rw [es3]; exact Kp.app _ _
  have ln3 : s3.length = s2.length + 1 := by rw [es3]; simp
  have e3 : s3[s2.length]? = some (.box u2) := by rw [es3]; simp
  rw [← es3]
  replace e1 := kp3.box e1
  replace p2 := kp3.ownL p2
  try simp -implicitDefEqProofs only [nat_neg, List.append_nil, tk, on, lm, e1, l2, tk2, on2, e3, ne_self, beq_self_eq_true, S0, S1, S2, S3, S4, S5, S6, S7, S8, S9, S10, S11, S12, S13, S14, S15, S16, opv, opvs, eget, env0, setD, lenStr, lenSl, isNilP, isNilS, putAt, if_true, if_false, reduceCtorEq, Nat.reduceLeDiff, Nat.reduceEqDiff, Nat.reduceSub, Nat.reduceMul, Nat.reduceAdd]
  refine call_bor (fun σ => eqSheetCut t σ hT (by omega)) rfl ⟨_, _, rfl, sees_agg p2 rfl (List.prefix_refl _), _, _, rfl, seesA_ts (by decide) hT rfl, rfl⟩ ?_
  simp -implicitDefEqProofs only [nat_neg, List.append_nil, tk, on, lm, e1, l2, tk2, on2, e3, ne_self, beq_self_eq_true, S0, S1, S2, S3, S4, S5, S6, S7, S8, S9, S10, S11, S12, S13, S14, S15, S16, opv, opvs, eget, env0, setD, lenStr, lenSl, isNilP, isNilS, putAt, if_true, if_false, reduceCtorEq, Nat.reduceLeDiff, Nat.reduceEqDiff, Nat.reduceSub, Nat.reduceMul, Nat.reduceAdd]
  refine call_by (by rw [List.append_nil]; exact markSheetCut t u2 j2 1 _ hT (by omega) p2 w2.1 (Nat.le_refl _) hmt) ?_
  rintro r s4 ⟨rfl, q4, le4, kb4⟩
  have kb4' : Kb j2 s3 s4 := kb4
  replace e1 := kb4'.box e1 (wi_out w2 (by omega))
  replace e3 := kb4'.box e3 (wi_out w2 (by omega))
  have Hp := fun σ => heldSheetCut t 1 σ hT (by omega) (Nat.le_refl _) hmt
  simp -implicitDefEqProofs only [nat_neg, List.append_nil, tk, on, lm, e1, l2, tk2, on2, e3, ne_self, beq_self_eq_true, S0, S1, S2, S3, S4, S5, S6, S7, S8, S9, S10, S11, S12, S13, S14, S15, S16, opv, opvs, eget, env0, setD, lenStr, lenSl, isNilP, isNilS, putAt, if_true, if_false, reduceCtorEq, Nat.reduceLeDiff, Nat.reduceEqDiff, Nat.reduceSub, Nat.reduceMul, Nat.reduceAdd]
  refine call_bor (y := .t (.int .i64 ((T.mkVL markTxt 1 t).2 : Nat))) (fun σ => Hp σ) rfl ⟨_, _, rfl, sees_agg q4 rfl (List.prefix_refl _), _, _, rfl, sees_one rfl, rfl⟩ ?_
  simp -implicitDefEqProofs only [nat_neg, List.append_nil, tk, on, lm, e1, l2, tk2, on2, e3, ne_self, beq_self_eq_true, S0, S1, S2, S3, S4, S5, S6, S7, S8, S9, S10, S11, S12, S13, S14, S15, S16, opv, opvs, eget, env0, setD, lenStr, lenSl, isNilP, isNilS, putAt, if_true, if_false, reduceCtorEq, Nat.reduceLeDiff, Nat.reduceEqDiff, Nat.reduceSub, Nat.reduceMul, Nat.reduceAdd]
  refine call_pure (IpF _) ?_
  simp -implicitDefEqProofs only [nat_neg, List.append_nil, tk, on, lm, e1, l2, tk2, on2, e3, ne_self, beq_self_eq_true, S0, S1, S2, S3, S4, S5, S6, S7, S8, S9, S10, S11, S12, S13, S14, S15, S16, opv, opvs, eget, env0, setD, lenStr, lenSl, isNilP, isNilS, putAt, if_true, if_false, reduceCtorEq, Nat.reduceLeDiff, Nat.reduceEqDiff, Nat.reduceSub, Nat.reduceMul, Nat.reduceAdd]
  obtain ⟨s5, es5⟩ : ∃ s, s = s4 ++ [Go.Ab.Obj.box (t.map V.t)] := ⟨_, rfl⟩
  have kp5 : Kp s4 s5 := by rw [es5]; exact Kp.app _ _
  have ln5 : s5.length = s4.length + 1 := by rw [es5]; simp
  have e5 : s5[s4.length]? = some (.box (t.map V.t)) := by rw [es5]; simp
  rw [← es5]
  replace e1 := kp5.box e1
  replace e3 := kp5.box e3
  replace q4 := kp5.ownL q4
  try simp -implicitDefEqProofs only [nat_neg, List.append_nil, tk, on, lm, e1, l2, tk2, on2, e3, e5, ne_self, beq_self_eq_true, S0, S1, S2, S3, S4, S5, S6, S7, S8, S9, S10, S11, S12, S13, S14, S15, S16, opv, opvs, eget, env0, setD, lenStr, lenSl, isNilP, isNilS, putAt, if_true, if_false, reduceCtorEq, Nat.reduceLeDiff, Nat.reduceEqDiff, Nat.reduceSub, Nat.reduceMul, Nat.reduceAdd]
  refine call_pure (eqSheetCut t _ hT (by omega)) ?_
  simp -implicitDefEqProofs only [nat_neg, List.append_nil, tk, on, lm, e1, l2, tk2, on2, e3, e5, ne_self, beq_self_eq_true, S0, S1, S2, S3, S4, S5, S6, S7, S8, S9, S10, S11, S12, S13, S14, S15, S16, opv, opvs, eget, env0, setD, lenStr, lenSl, isNilP, isNilS, putAt, if_true, if_false, reduceCtorEq, Nat.reduceLeDiff, Nat.reduceEqDiff, Nat.reduceSub, Nat.reduceMul, Nat.reduceAdd]
  refine call_bor (y := .t (.int .i64 ((T.mkVL markTxt 1 t).2 : Nat))) (fun σ => Hp σ) rfl ⟨_, _, rfl, sees_agg q4 rfl (List.prefix_refl _), _, _, rfl, sees_one rfl, rfl⟩ ?_
  simp -implicitDefEqProofs only [nat_neg, List.append_nil, tk, on, lm, e1, l2, tk2, on2, e3, e5, ne_self, beq_self_eq_true, S0, S1, S2, S3, S4, S5, S6, S7, S8, S9, S10, S11, S12, S13, S14, S15, S16, opv, opvs, eget, env0, setD, lenStr, lenSl, isNilP, isNilS, putAt, if_true, if_false, reduceCtorEq, Nat.reduceLeDiff, Nat.reduceEqDiff, Nat.reduceSub, Nat.reduceMul, Nat.reduceAdd]
  refine fin_keep ?_ rfl
  omega
end Go.Proofs.Ytkppdeobinefbaa.LSheetWords
