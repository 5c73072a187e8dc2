/- FnExactStewRank: what the law's code does: it returns true. Conditions: none. -/
import Derived.Test.YtabakekeicbpbaaStewRankR
import Derived.Test.YtabakekeicbpbaaMarkStew
import Derived.Test.YtabakekeicbpbaaAb4
set_option linter.unusedSimpArgs false
set_option linter.unusedVariables false
set_option linter.defProp false
open Go Go.Ab
set_option maxHeartbeats 4000000
namespace Go.Proofs.Ytabakekeicbpbaa.LStewRank
open Go.Proofs.Ytabakekeicbpbaa.W
def c_laws_FnExactStewRank : C := (.seq (.ops [⟨(some 1), none, (.box (.t 0))⟩, ⟨(some 2), none, (.mv (.c (.t (.bool false))))⟩]) (.seq (.ops [⟨(some 3), none, (.mv (.c (.t (.int .i64 1048576))))⟩]) (.seq (.ops [⟨(some 11), none, (.load (some 4) (.t 1))⟩, ⟨(some 12), none, (.mv (.t 3))⟩, ⟨(some 13), none, (.call (.c (.fn (.func 10) [])) [(.t 11), (.t 12)])⟩, ⟨(some 3), none, (.mv (.t 13))⟩]) (.seq (.seq (.ops [⟨(some 14), none, (.mv (.t 3))⟩, ⟨(some 15), none, (.bin .lss (.t 14) (.c (.t (.int .i64 0))))⟩]) (.cond (.t 15) (.seq (.ops [⟨(some 2), none, (.mv (.c (.t (.bool true))))⟩]) .ret) .skip)) (.seq (.ops [⟨(some 16), none, (.load (some 4) (.t 1))⟩, ⟨(some 17), none, (.call (.c (.fn (.func 12) [])) [(.t 16)])⟩, ⟨(some 18), none, (.call (.c (.fn (.func 27) [])) [(.t 17)])⟩, ⟨(some 4), none, (.mv (.t 18))⟩]) (.seq (.ops [⟨(some 19), none, (.load (some 4) (.t 1))⟩, ⟨(some 20), none, (.call (.c (.fn (.func 12) [])) [(.t 19)])⟩, ⟨(some 5), none, (.new [(.t (.int .i64 0)), .nils, .nils, .nils])⟩, ⟨none, none, (.store 4 (.t 5) (.t 20))⟩]) (.seq (.ops [⟨(some 21), none, (.load (some 4) (.t 5))⟩, ⟨(some 22), none, (.call (.c (.fn (.func 28) [])) [(.t 21)])⟩, ⟨(some 6), none, (.mv (.t 22))⟩]) (.seq (.seq (.ops [⟨(some 23), none, (.mv (.t 6))⟩, ⟨(some 24), none, (.mv (.t 4))⟩, ⟨(some 25), none, (.call (.c (.fn (.func 29) [])) [(.t 23), (.t 24)])⟩, ⟨(some 26), none, (.un .not (.t 25))⟩]) (.cond (.t 26) (.seq (.ops [⟨(some 2), none, (.mv (.c (.t (.bool false))))⟩]) .ret) .skip)) (.seq (.seq (.drawn [(.mk 0 false ⟨(some 27), none, (.load (some 4) (.t 5))⟩), (.mk 1 false ⟨(some 28), none, (.load (some 4) (.t 1))⟩), (.mk 2 true ⟨(some 29), none, (.call (.c (.fn (.func 12) [])) [(.t 28)])⟩), (.mk 3 false ⟨(some 30), none, (.call (.c (.fn (.func 14) [])) [(.t 27), (.t 29)])⟩), (.mk 4 false ⟨(some 31), none, (.un .not (.t 30))⟩)]) (.cond (.t 31) (.seq (.ops [⟨(some 2), none, (.mv (.c (.t (.bool false))))⟩]) .ret) .skip)) (.seq (.ops [⟨(some 7), none, (.mv (.c (.t (.int .i64 1))))⟩]) (.seq (.ops [⟨(some 32), none, (.load (some 4) (.t 5))⟩, ⟨(some 33), none, (.mv (.t 7))⟩, ⟨(some 34), none, (.call (.c (.fn (.func 30) [])) [(.t 32), (.t 33)])⟩, ⟨(some 7), none, (.mv (.t 34))⟩]) (.seq (.seq (.ops [⟨(some 35), none, (.mv (.t 7))⟩, ⟨(some 36), none, (.bin .lss (.t 35) (.c (.t (.int .i64 0))))⟩, ⟨(some 37), none, (.mv (.t 36))⟩, ⟨(some 38), (some ⟨37, false⟩), (.mv (.t 6))⟩, ⟨(some 39), (some ⟨37, false⟩), (.mv (.t 4))⟩, ⟨(some 40), (some ⟨37, false⟩), (.call (.c (.fn (.func 29) [])) [(.t 38), (.t 39)])⟩, ⟨(some 41), (some ⟨37, false⟩), (.un .not (.t 40))⟩, ⟨(some 42), none, (.pick (.t 37) (.c (.t (.bool true))) (.t 41))⟩]) (.cond (.t 42) (.seq (.ops [⟨(some 2), none, (.mv (.c (.t (.bool false))))⟩]) .ret) .skip)) (.seq (.ops [⟨(some 8), none, (.mv (.c (.t (.int .i64 1))))⟩]) (.seq (.ops [⟨(some 43), none, (.mv (.t 6))⟩, ⟨(some 44), none, (.mv (.t 8))⟩, ⟨(some 45), none, (.call (.c (.fn (.func 31) [])) [(.t 43), (.t 44)])⟩, ⟨(some 8), none, (.mv (.t 45))⟩]) (.seq (.ops [⟨(some 9), none, (.mv (.c (.t (.int .i64 1))))⟩]) (.seq (.ops [⟨(some 46), none, (.mv (.t 6))⟩, ⟨(some 47), none, (.mv (.t 9))⟩, ⟨(some 48), none, (.call (.c (.fn (.func 32) [])) [(.t 46), (.t 47)])⟩, ⟨(some 9), none, (.mv (.t 48))⟩]) (.seq (.seq (.ops [⟨(some 49), none, (.mv (.t 9))⟩, ⟨(some 50), none, (.bin .lss (.t 49) (.c (.t (.int .i64 0))))⟩]) (.cond (.t 50) (.seq (.ops [⟨(some 2), none, (.mv (.c (.t (.bool false))))⟩]) .ret) .skip)) (.seq (.seq (.ops [⟨(some 51), none, (.mv (.t 9))⟩, ⟨(some 52), none, (.mv (.t 8))⟩, ⟨(some 53), none, (.bin .neq (.t 51) (.t 52))⟩]) (.cond (.t 53) (.seq (.ops [⟨(some 2), none, (.mv (.c (.t (.bool false))))⟩]) .ret) .skip)) (.seq (.ops [⟨(some 54), none, (.load (some 4) (.t 1))⟩, ⟨(some 55), none, (.call (.c (.fn (.func 12) [])) [(.t 54)])⟩, ⟨(some 56), none, (.call (.c (.fn (.func 28) [])) [(.t 55)])⟩, ⟨(some 10), none, (.mv (.t 56))⟩]) (.seq (.seq (.ops [⟨(some 57), none, (.mv (.t 10))⟩, ⟨(some 58), none, (.mv (.t 4))⟩, ⟨(some 59), none, (.call (.c (.fn (.func 29) [])) [(.t 57), (.t 58)])⟩, ⟨(some 60), none, (.un .not (.t 59))⟩]) (.cond (.t 60) (.seq (.ops [⟨(some 2), none, (.mv (.c (.t (.bool false))))⟩]) .ret) .skip)) (.seq (.ops [⟨(some 9), none, (.mv (.c (.t (.int .i64 1))))⟩]) (.seq (.ops [⟨(some 61), none, (.mv (.t 6))⟩, ⟨(some 62), none, (.mv (.t 9))⟩, ⟨(some 63), none, (.call (.c (.fn (.func 32) [])) [(.t 61), (.t 62)])⟩, ⟨(some 9), none, (.mv (.t 63))⟩]) (.seq (.seq (.ops [⟨(some 64), none, (.mv (.t 9))⟩, ⟨(some 65), none, (.bin .lss (.t 64) (.c (.t (.int .i64 0))))⟩]) (.cond (.t 65) (.seq (.ops [⟨(some 2), none, (.mv (.c (.t (.bool false))))⟩]) .ret) .skip)) (.seq (.seq (.ops [⟨(some 66), none, (.mv (.t 9))⟩, ⟨(some 67), none, (.mv (.t 8))⟩, ⟨(some 68), none, (.bin .neq (.t 66) (.t 67))⟩]) (.cond (.t 68) (.seq (.ops [⟨(some 2), none, (.mv (.c (.t (.bool false))))⟩]) .ret) .skip)) (.seq (.ops [⟨(some 2), none, (.mv (.c (.t (.bool true))))⟩]) .ret)))))))))))))))))))))))))
theorem k_laws_FnExactStewRank : comp Try.prog 69 (Try.f8.body.getD .skip) = some c_laws_FnExactStewRank := by kernel_rfl

theorem lawStewRank (a0 : StewBook) (h0 : T.isL shStewBook a0.ts) (q0 : T.sizeL a0.ts ≤ 1048576 → a0.Ok) (σ : Store) : ACalls Try.prog 8 [.agg a0.vs] σ fun r _ => r = .t (.bool true) := by
  refine acalls_of Try.func8 (by decide +kernel) (code := Try.f8.body.getD .skip) (n := 69) (c := c_laws_FnExactStewRank) (rs := [(.tmp 2)]) rfl rfl k_laws_FnExactStewRank (by kernel_rfl) (by simp) (fun hσ => ?_)
  try simp only [maxLen] at *
  have fin : ∀ {τ : Store}, retV σ.length (fun r _ => r = .t (.bool true)) (σ ++ τ) (some [.t (.bool true)]) := ret_same rfl hσ rfl rfl
  have fin0 : retV σ.length (fun r _ => r = .t (.bool true)) σ (some [.t (.bool true)]) := ret_same0 rfl rfl
  simp -implicitDefEqProofs only [c_laws_FnExactStewRank, StewBook.vs, S0, S1, S2, S3, S4, S5, S6, S7, S8, S9, S10, S11, S12, S13, S14, S15, S16, opv, opvs, eget, env0, setD, lenStr, lenSl, isNilP, isNilS, putAt, if_true, if_false, reduceCtorEq, Nat.reduceLeDiff, Nat.reduceEqDiff, Nat.reduceSub, Nat.reduceMul, Nat.reduceAdd]
  refine call_by (by rw [List.append_nil]; exact szStewBook a0.ts 1048576 _ h0 (by omega) (by omega)) ?_
  rintro r σ' ⟨⟨m1, rfl, hm1, hs1⟩, rfl⟩
  simp -implicitDefEqProofs only [nat_neg, List.append_nil, StewBook.vs, ne_self, beq_self_eq_true, S0, S1, S2, S3, S4, S5, S6, S7, S8, S9, S10, S11, S12, S13, S14, S15, S16, opv, opvs, eget, env0, setD, lenStr, lenSl, isNilP, isNilS, putAt, if_true, if_false, reduceCtorEq, Nat.reduceLeDiff, Nat.reduceEqDiff, Nat.reduceSub, Nat.reduceMul, Nat.reduceAdd]
  refine cond_split (fun h => ?_) (fun h => ?_)
  · simp -implicitDefEqProofs only [S0, S1, S2, S3, S4, S5, S6, S7, S8, S9, S10, S11, S12, S13, S14, S15, S16, opv, opvs, eget, env0, setD, lenStr, lenSl, isNilP, isNilS, putAt, if_true, if_false, reduceCtorEq, Nat.reduceLeDiff, Nat.reduceEqDiff, Nat.reduceSub, Nat.reduceMul, Nat.reduceAdd]
    first | exact fin | exact fin0
  simp only [decide_eq_false_iff_not, Int.not_lt] at h
  replace hs1 := hs1 h
  simp -implicitDefEqProofs only [nat_neg, List.append_nil, StewBook.vs, ne_self, beq_self_eq_true, S0, S1, S2, S3, S4, S5, S6, S7, S8, S9, S10, S11, S12, S13, S14, S15, S16, opv, opvs, eget, env0, setD, lenStr, lenSl, isNilP, isNilS, putAt, if_true, if_false, reduceCtorEq, Nat.reduceLeDiff, Nat.reduceEqDiff, Nat.reduceSub, Nat.reduceMul, Nat.reduceAdd]
  have o0 := q0 (by omega)
  obtain ⟨s1, es1⟩ : ∃ s, s = σ ++ [Go.Ab.Obj.box a0.vs] := ⟨_, rfl⟩
  have kp1 : Kp σ s1 := by rw [es1]; exact Kp.app _ _
  have ln1 : s1.length = σ.length + 1 := by rw [es1]; simp
  have e1 : s1[σ.length]? = some (.box a0.vs) := by rw [es1]; simp
  simp only [StewBook.vs] at es1 e1
  rw [← es1]
  obtain ⟨hT, hzt⟩ := res_StewRank a0 h0 (by omega) o0
  have Sp := fun σ => specF_StewRank a0 o0 σ
  have Ip := fun σ => implO_StewRank a0 o0 σ
  generalize (resT_StewRank a0) = t at hT hzt Sp Ip
  have hmt : (T.mk markTxt 1 t).2 < 4611686018427387904 := by
    have := mk_ub (mt := markTxt) (t := t) (k := 1) (c := (.sl 1 [.int .i64])) (by decide) hT
    omega
  have IpF := fun σ => acalls_frzT (Ip σ)
  have toF0 : ∀ σ, ACalls Try.prog 12 [.agg a0.vs] σ fun r σ' => r = .agg a0.vs ∧ σ' = σ := fun σ => acalls_frzTL (toStewBook a0.ts σ h0 (by omega))
  try simp -implicitDefEqProofs only [nat_neg, List.append_nil, StewBook.vs, e1, ne_self, beq_self_eq_true, S0, S1, S2, S3, S4, S5, S6, S7, S8, S9, S10, S11, S12, S13, S14, S15, S16, opv, opvs, eget, env0, setD, lenStr, lenSl, isNilP, isNilS, putAt, if_true, if_false, reduceCtorEq, Nat.reduceLeDiff, Nat.reduceEqDiff, Nat.reduceSub, Nat.reduceMul, Nat.reduceAdd]
  refine call_pure (toF0 _) ?_
  simp -implicitDefEqProofs only [nat_neg, List.append_nil, StewBook.vs, e1, ne_self, beq_self_eq_true, S0, S1, S2, S3, S4, S5, S6, S7, S8, S9, S10, S11, S12, S13, S14, S15, S16, opv, opvs, eget, env0, setD, lenStr, lenSl, isNilP, isNilS, putAt, if_true, if_false, reduceCtorEq, Nat.reduceLeDiff, Nat.reduceEqDiff, Nat.reduceSub, Nat.reduceMul, Nat.reduceAdd]
  refine call_pure (Sp _) ?_
  simp -implicitDefEqProofs only [nat_neg, List.append_nil, StewBook.vs, e1, ne_self, beq_self_eq_true, S0, S1, S2, S3, S4, S5, S6, S7, S8, S9, S10, S11, S12, S13, S14, S15, S16, opv, opvs, eget, env0, setD, lenStr, lenSl, isNilP, isNilS, putAt, if_true, if_false, reduceCtorEq, Nat.reduceLeDiff, Nat.reduceEqDiff, Nat.reduceSub, Nat.reduceMul, Nat.reduceAdd]
  refine call_newL (toStewBook a0.ts _ h0 (by omega)) ?_
  rintro u2 s2 j2 le2 k2 p2 w2
  replace e1 := k2.box e1
  have l2 : u2.length = 4 := by rw [p2.len]; first | rfl | exact lt
  have tk2 := take_all l2
  have on2 := p2.ones
  simp -implicitDefEqProofs only [nat_neg, List.append_nil, StewBook.vs, e1, l2, tk2, on2, ne_self, beq_self_eq_true, S0, S1, S2, S3, S4, S5, S6, S7, S8, S9, S10, S11, S12, S13, S14, S15, S16, opv, opvs, eget, env0, setD, lenStr, lenSl, isNilP, isNilS, putAt, if_true, if_false, reduceCtorEq, Nat.reduceLeDiff, Nat.reduceEqDiff, Nat.reduceSub, Nat.reduceMul, Nat.reduceAdd]
  obtain ⟨s3, es3⟩ : ∃ s, s = s2 ++ [Go.Ab.Obj.box u2] := ⟨_, rfl⟩
  have kp3 : Kp s2 s3 := by rw [es3]; exact Kp.app _ _
  have ln3 : s3.length = s2.length + 1 := by rw [es3]; simp
  have e3 : s3[s2.length]? = some (.box u2) := by rw [es3]; simp
  rw [← es3]
  replace e1 := kp3.box e1
  replace p2 := kp3.ownL p2
  try simp -implicitDefEqProofs only [nat_neg, List.append_nil, StewBook.vs, e1, l2, tk2, on2, e3, ne_self, beq_self_eq_true, S0, S1, S2, S3, S4, S5, S6, S7, S8, S9, S10, S11, S12, S13, S14, S15, S16, opv, opvs, eget, env0, setD, lenStr, lenSl, isNilP, isNilS, putAt, if_true, if_false, reduceCtorEq, Nat.reduceLeDiff, Nat.reduceEqDiff, Nat.reduceSub, Nat.reduceMul, Nat.reduceAdd]
  refine call_new (acalls_to Ip ⟨_, _, rfl, sees_agg p2 rfl (List.prefix_refl _), rfl⟩) ?_
  rintro u4 s4 j4 le4 k4 p4 w4
  replace e1 := k4.box e1
  replace e3 := k4.box e3
  replace p2 := k4.ownL p2
  have on4 := p4.one
  simp -implicitDefEqProofs only [nat_neg, List.append_nil, StewBook.vs, e1, l2, tk2, on2, e3, one_cells on4, on4, ne_self, beq_self_eq_true, S0, S1, S2, S3, S4, S5, S6, S7, S8, S9, S10, S11, S12, S13, S14, S15, S16, opv, opvs, eget, env0, setD, lenStr, lenSl, isNilP, isNilS, putAt, if_true, if_false, reduceCtorEq, Nat.reduceLeDiff, Nat.reduceEqDiff, Nat.reduceSub, Nat.reduceMul, Nat.reduceAdd]
  refine call_bor (fun σ => eqIntS t σ hT (by omega)) rfl ⟨_, _, rfl, sees_lst p4 rfl (List.prefix_refl _), _, _, rfl, seesA_t (by decide) hT, rfl⟩ ?_
  simp -implicitDefEqProofs only [nat_neg, List.append_nil, StewBook.vs, e1, l2, tk2, on2, e3, one_cells on4, on4, ne_self, beq_self_eq_true, S0, S1, S2, S3, S4, S5, S6, S7, S8, S9, S10, S11, S12, S13, S14, S15, S16, opv, opvs, eget, env0, setD, lenStr, lenSl, isNilP, isNilS, putAt, if_true, if_false, reduceCtorEq, Nat.reduceLeDiff, Nat.reduceEqDiff, Nat.reduceSub, Nat.reduceMul, Nat.reduceAdd]
  refine call_pure (toF0 _) ?_
  simp -implicitDefEqProofs only [nat_neg, List.append_nil, StewBook.vs, e1, l2, tk2, on2, e3, one_cells on4, on4, ne_self, beq_self_eq_true, S0, S1, S2, S3, S4, S5, S6, S7, S8, S9, S10, S11, S12, S13, S14, S15, S16, opv, opvs, eget, env0, setD, lenStr, lenSl, isNilP, isNilS, putAt, if_true, if_false, reduceCtorEq, Nat.reduceLeDiff, Nat.reduceEqDiff, Nat.reduceSub, Nat.reduceMul, Nat.reduceAdd]
  refine call_bor (fun σ => eqStewBook a0.ts σ h0 (by omega)) rfl ⟨_, _, rfl, sees_agg p2 rfl (List.prefix_refl _), _, _, rfl, seesA_ts (v := .agg a0.vs) (by decide) h0 rfl, rfl⟩ ?_
  simp -implicitDefEqProofs only [nat_neg, List.append_nil, StewBook.vs, e1, l2, tk2, on2, e3, one_cells on4, on4, ne_self, beq_self_eq_true, S0, S1, S2, S3, S4, S5, S6, S7, S8, S9, S10, S11, S12, S13, S14, S15, S16, opv, opvs, eget, env0, setD, lenStr, lenSl, isNilP, isNilS, putAt, if_true, if_false, reduceCtorEq, Nat.reduceLeDiff, Nat.reduceEqDiff, Nat.reduceSub, Nat.reduceMul, Nat.reduceAdd]
  have ub1 : (T.mkVL markTxt 1 a0.ts).2 ≤ 1 * 300000000 := by
    have := mkVL_ub (mt := markTxt) (ts := a0.ts) (k := 1) (cs := shStewBook) (by decide) h0
    have h2 : a0.ts.length = 4 := rfl
    omega
  refine call_by (by rw [List.append_nil]; exact markStewBook a0.ts u2 j2 1 _ h0 (by omega) p2 w2.1 (Nat.le_refl _) (by omega)) ?_
  rintro r s5 ⟨rfl, q5, le5, kb5⟩
  have kb5' : Kb j2 s4 s5 := kb5
  replace e1 := kb5'.box e1 (wi_out w2 (by omega))
  replace e3 := kb5'.box e3 (wi_out w2 (by omega))
  replace p4 := kb5'.own p4 (wi_apart w4 w2 (by omega))
  simp -implicitDefEqProofs only [nat_neg, List.append_nil, StewBook.vs, e1, l2, tk2, on2, e3, one_cells on4, on4, ne_self, beq_self_eq_true, S0, S1, S2, S3, S4, S5, S6, S7, S8, S9, S10, S11, S12, S13, S14, S15, S16, opv, opvs, eget, env0, setD, lenStr, lenSl, isNilP, isNilS, putAt, if_true, if_false, reduceCtorEq, Nat.reduceLeDiff, Nat.reduceEqDiff, Nat.reduceSub, Nat.reduceMul, Nat.reduceAdd]
  refine call_bor (fun σ => eqIntS t σ hT (by omega)) rfl ⟨_, _, rfl, sees_lst p4 rfl (List.prefix_refl _), _, _, rfl, seesA_t (by decide) hT, rfl⟩ ?_
  simp -implicitDefEqProofs only [nat_neg, List.append_nil, StewBook.vs, e1, l2, tk2, on2, e3, one_cells on4, on4, ne_self, beq_self_eq_true, S0, S1, S2, S3, S4, S5, S6, S7, S8, S9, S10, S11, S12, S13, S14, S15, S16, opv, opvs, eget, env0, setD, lenStr, lenSl, isNilP, isNilS, putAt, if_true, if_false, reduceCtorEq, Nat.reduceLeDiff, Nat.reduceEqDiff, Nat.reduceSub, Nat.reduceMul, Nat.reduceAdd]
  refine call_by (by rw [List.append_nil]; exact markIntS t u4 j4 1 _ hT (by omega) p4 w4.1 (Nat.le_refl _) hmt) ?_
  rintro r s6 ⟨rfl, q6, le6, kb6⟩
  have kb6' : Kb j4 s5 s6 := kb6
  replace e1 := kb6'.box e1 (wi_out w4 (by omega))
  replace e3 := kb6'.box e3 (wi_out w4 (by omega))
  have Hp := fun σ => heldIntS t 1 σ hT (by omega) (Nat.le_refl _) hmt
  simp -implicitDefEqProofs only [nat_neg, List.append_nil, StewBook.vs, e1, l2, tk2, on2, e3, one_cells on4, on4, ne_self, beq_self_eq_true, S0, S1, S2, S3, S4, S5, S6, S7, S8, S9, S10, S11, S12, S13, S14, S15, S16, opv, opvs, eget, env0, setD, lenStr, lenSl, isNilP, isNilS, putAt, if_true, if_false, reduceCtorEq, Nat.reduceLeDiff, Nat.reduceEqDiff, Nat.reduceSub, Nat.reduceMul, Nat.reduceAdd]
  refine call_bor (y := .t (.int .i64 ((T.mk markTxt 1 t).2 : Nat))) (fun σ => Hp σ) rfl ⟨_, _, rfl, sees_lst q6 rfl (List.prefix_refl _), _, _, rfl, sees_one rfl, rfl⟩ ?_
  simp -implicitDefEqProofs only [nat_neg, List.append_nil, StewBook.vs, e1, l2, tk2, on2, e3, one_cells on4, on4, ne_self, beq_self_eq_true, S0, S1, S2, S3, S4, S5, S6, S7, S8, S9, S10, S11, S12, S13, S14, S15, S16, opv, opvs, eget, env0, setD, lenStr, lenSl, isNilP, isNilS, putAt, if_true, if_false, reduceCtorEq, Nat.reduceLeDiff, Nat.reduceEqDiff, Nat.reduceSub, Nat.reduceMul, Nat.reduceAdd]
  refine call_pure (toF0 _) ?_
  simp -implicitDefEqProofs only [nat_neg, List.append_nil, StewBook.vs, e1, l2, tk2, on2, e3, one_cells on4, on4, ne_self, beq_self_eq_true, S0, S1, S2, S3, S4, S5, S6, S7, S8, S9, S10, S11, S12, S13, S14, S15, S16, opv, opvs, eget, env0, setD, lenStr, lenSl, isNilP, isNilS, putAt, if_true, if_false, reduceCtorEq, Nat.reduceLeDiff, Nat.reduceEqDiff, Nat.reduceSub, Nat.reduceMul, Nat.reduceAdd]
  refine call_pure (IpF _) ?_
  simp -implicitDefEqProofs only [nat_neg, List.append_nil, StewBook.vs, e1, l2, tk2, on2, e3, one_cells on4, on4, ne_self, beq_self_eq_true, S0, S1, S2, S3, S4, S5, S6, S7, S8, S9, S10, S11, S12, S13, S14, S15, S16, opv, opvs, eget, env0, setD, lenStr, lenSl, isNilP, isNilS, putAt, if_true, if_false, reduceCtorEq, Nat.reduceLeDiff, Nat.reduceEqDiff, Nat.reduceSub, Nat.reduceMul, Nat.reduceAdd]
  refine call_pure (eqIntS t _ hT (by omega)) ?_
  simp -implicitDefEqProofs only [nat_neg, List.append_nil, StewBook.vs, e1, l2, tk2, on2, e3, one_cells on4, on4, ne_self, beq_self_eq_true, S0, S1, S2, S3, S4, S5, S6, S7, S8, S9, S10, S11, S12, S13, S14, S15, S16, opv, opvs, eget, env0, setD, lenStr, lenSl, isNilP, isNilS, putAt, if_true, if_false, reduceCtorEq, Nat.reduceLeDiff, Nat.reduceEqDiff, Nat.reduceSub, Nat.reduceMul, Nat.reduceAdd]
  refine call_bor (y := .t (.int .i64 ((T.mk markTxt 1 t).2 : Nat))) (fun σ => Hp σ) rfl ⟨_, _, rfl, sees_lst q6 rfl (List.prefix_refl _), _, _, rfl, sees_one rfl, rfl⟩ ?_
  simp -implicitDefEqProofs only [nat_neg, List.append_nil, StewBook.vs, e1, l2, tk2, on2, e3, one_cells on4, on4, ne_self, beq_self_eq_true, S0, S1, S2, S3, S4, S5, S6, S7, S8, S9, S10, S11, S12, S13, S14, S15, S16, opv, opvs, eget, env0, setD, lenStr, lenSl, isNilP, isNilS, putAt, if_true, if_false, reduceCtorEq, Nat.reduceLeDiff, Nat.reduceEqDiff, Nat.reduceSub, Nat.reduceMul, Nat.reduceAdd]
  refine fin_keep ?_ rfl
  omega
end Go.Proofs.Ytabakekeicbpbaa.LStewRank
