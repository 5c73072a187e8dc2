/- FnExactSheetTrim: what the law's code does: it returns true. Conditions: none. -/
import Derived.Test.YtkppdeobinefbaaDoorSheetTrimR
import Derived.Test.YtkppdeobinefbaaDoorMarkSheetD
import Derived.Test.YtkppdeobinefbaaDoorAb4
set_option linter.unusedSimpArgs false
set_option linter.unusedVariables false
set_option linter.defProp false
open Go Go.Ab
set_option maxHeartbeats 4000000
namespace Go.Proofs.YtkppdeobinefbaaDoor.LSheetTrim
open Go.Proofs.YtkppdeobinefbaaDoor.W
def c_laws_FnExactSheetTrim : C := (.seq (.ops [⟨(some 1), none, (.box (.t 0))⟩, ⟨(some 2), none, (.mv (.c (.t (.bool false))))⟩]) (.seq (.ops [⟨(some 3), none, (.mv (.c (.t (.int .i64 1048576))))⟩]) (.seq (.ops [⟨(some 11), none, (.load (some 1) (.t 1))⟩, ⟨(some 12), none, (.mv (.t 3))⟩, ⟨(some 13), none, (.call (.c (.fn (.func 25) [])) [(.t 11), (.t 12)])⟩, ⟨(some 3), none, (.mv (.t 13))⟩]) (.seq (.seq (.ops [⟨(some 14), none, (.mv (.t 3))⟩, ⟨(some 15), none, (.bin .lss (.t 14) (.c (.t (.int .i64 0))))⟩]) (.cond (.t 15) (.seq (.ops [⟨(some 2), none, (.mv (.c (.t (.bool true))))⟩]) .ret) .skip)) (.seq (.ops [⟨(some 16), none, (.load (some 1) (.t 1))⟩, ⟨(some 17), none, (.call (.c (.fn (.func 27) [])) [(.t 16)])⟩, ⟨(some 18), none, (.call (.c (.fn (.func 44) [])) [(.t 17)])⟩, ⟨(some 4), none, (.new [.nils])⟩, ⟨none, none, (.store 1 (.t 4) (.t 18))⟩]) (.seq (.ops [⟨(some 19), none, (.load (some 1) (.t 1))⟩, ⟨(some 20), none, (.call (.c (.fn (.func 27) [])) [(.t 19)])⟩, ⟨(some 5), none, (.new [.nils])⟩, ⟨none, none, (.store 1 (.t 5) (.t 20))⟩]) (.seq (.ops [⟨(some 21), none, (.load (some 1) (.t 5))⟩, ⟨(some 22), none, (.call (.c (.fn (.func 42) [])) [(.t 21)])⟩, ⟨(some 6), none, (.new [.nils])⟩, ⟨none, none, (.store 1 (.t 6) (.t 22))⟩]) (.seq (.seq (.ops [⟨(some 23), none, (.load (some 1) (.t 6))⟩, ⟨(some 24), none, (.load (some 1) (.t 4))⟩, ⟨(some 25), none, (.call (.c (.fn (.func 29) [])) [(.t 23), (.t 24)])⟩, ⟨(some 26), none, (.un .not (.t 25))⟩]) (.cond (.t 26) (.seq (.ops [⟨(some 2), none, (.mv (.c (.t (.bool false))))⟩]) .ret) .skip)) (.seq (.seq (.drawn [(.mk 0 false ⟨(some 27), none, (.load (some 1) (.t 5))⟩ []), (.mk 1 false ⟨(some 28), none, (.load (some 1) (.t 1))⟩ []), (.mk 2 true ⟨(some 29), none, (.call (.c (.fn (.func 27) [])) [(.t 28)])⟩ [⟨(some 27), none, (.load (some 1) (.t 5))⟩]), (.mk 3 false ⟨(some 30), none, (.call (.c (.fn (.func 29) [])) [(.t 27), (.t 29)])⟩ []), (.mk 4 false ⟨(some 31), none, (.un .not (.t 30))⟩ [])]) (.cond (.t 31) (.seq (.ops [⟨(some 2), none, (.mv (.c (.t (.bool false))))⟩]) .ret) .skip)) (.seq (.ops [⟨(some 7), none, (.mv (.c (.t (.int .i64 1))))⟩]) (.seq (.ops [⟨(some 32), none, (.load (some 1) (.t 5))⟩, ⟨(some 33), none, (.mv (.t 7))⟩, ⟨(some 34), none, (.call (.c (.fn (.func 35) [])) [(.t 32), (.t 33)])⟩, ⟨(some 7), none, (.mv (.t 34))⟩]) (.seq (.seq (.ops [⟨(some 35), none, (.mv (.t 7))⟩, ⟨(some 36), none, (.bin .lss (.t 35) (.c (.t (.int .i64 0))))⟩, ⟨(some 37), none, (.mv (.t 36))⟩, ⟨(some 38), (some ⟨37, false⟩), (.load (some 1) (.t 6))⟩, ⟨(some 39), (some ⟨37, false⟩), (.load (some 1) (.t 4))⟩, ⟨(some 40), (some ⟨37, false⟩), (.call (.c (.fn (.func 29) [])) [(.t 38), (.t 39)])⟩, ⟨(some 41), (some ⟨37, false⟩), (.un .not (.t 40))⟩, ⟨(some 42), none, (.pick (.t 37) (.c (.t (.bool true))) (.t 41))⟩]) (.cond (.t 42) (.seq (.ops [⟨(some 2), none, (.mv (.c (.t (.bool false))))⟩]) .ret) .skip)) (.seq (.ops [⟨(some 8), none, (.mv (.c (.t (.int .i64 1))))⟩]) (.seq (.ops [⟨(some 43), none, (.load (some 1) (.t 6))⟩, ⟨(some 44), none, (.mv (.t 8))⟩, ⟨(some 45), none, (.call (.c (.fn (.func 35) [])) [(.t 43), (.t 44)])⟩, ⟨(some 8), none, (.mv (.t 45))⟩]) (.seq (.ops [⟨(some 9), none, (.mv (.c (.t (.int .i64 1))))⟩]) (.seq (.ops [⟨(some 46), none, (.load (some 1) (.t 6))⟩, ⟨(some 47), none, (.mv (.t 9))⟩, ⟨(some 48), none, (.call (.c (.fn (.func 40) [])) [(.t 46), (.t 47)])⟩, ⟨(some 9), none, (.mv (.t 48))⟩]) (.seq (.seq (.ops [⟨(some 49), none, (.mv (.t 9))⟩, ⟨(some 50), none, (.bin .lss (.t 49) (.c (.t (.int .i64 0))))⟩]) (.cond (.t 50) (.seq (.ops [⟨(some 2), none, (.mv (.c (.t (.bool false))))⟩]) .ret) .skip)) (.seq (.seq (.ops [⟨(some 51), none, (.mv (.t 9))⟩, ⟨(some 52), none, (.mv (.t 8))⟩, ⟨(some 53), none, (.bin .neq (.t 51) (.t 52))⟩]) (.cond (.t 53) (.seq (.ops [⟨(some 2), none, (.mv (.c (.t (.bool false))))⟩]) .ret) .skip)) (.seq (.ops [⟨(some 54), none, (.load (some 1) (.t 1))⟩, ⟨(some 55), none, (.call (.c (.fn (.func 27) [])) [(.t 54)])⟩, ⟨(some 56), none, (.call (.c (.fn (.func 42) [])) [(.t 55)])⟩, ⟨(some 10), none, (.new [.nils])⟩, ⟨none, none, (.store 1 (.t 10) (.t 56))⟩]) (.seq (.seq (.ops [⟨(some 57), none, (.load (some 1) (.t 10))⟩, ⟨(some 58), none, (.load (some 1) (.t 4))⟩, ⟨(some 59), none, (.call (.c (.fn (.func 29) [])) [(.t 57), (.t 58)])⟩, ⟨(some 60), none, (.un .not (.t 59))⟩]) (.cond (.t 60) (.seq (.ops [⟨(some 2), none, (.mv (.c (.t (.bool false))))⟩]) .ret) .skip)) (.seq (.ops [⟨(some 9), none, (.mv (.c (.t (.int .i64 1))))⟩]) (.seq (.ops [⟨(some 61), none, (.load (some 1) (.t 6))⟩, ⟨(some 62), none, (.mv (.t 9))⟩, ⟨(some 63), none, (.call (.c (.fn (.func 40) [])) [(.t 61), (.t 62)])⟩, ⟨(some 9), none, (.mv (.t 63))⟩]) (.seq (.seq (.ops [⟨(some 64), none, (.mv (.t 9))⟩, ⟨(some 65), none, (.bin .lss (.t 64) (.c (.t (.int .i64 0))))⟩]) (.cond (.t 65) (.seq (.ops [⟨(some 2), none, (.mv (.c (.t (.bool false))))⟩]) .ret) .skip)) (.seq (.seq (.ops [⟨(some 66), none, (.mv (.t 9))⟩, ⟨(some 67), none, (.mv (.t 8))⟩, ⟨(some 68), none, (.bin .neq (.t 66) (.t 67))⟩]) (.cond (.t 68) (.seq (.ops [⟨(some 2), none, (.mv (.c (.t (.bool false))))⟩]) .ret) .skip)) (.seq (.ops [⟨(some 2), none, (.mv (.c (.t (.bool true))))⟩]) .ret)))))))))))))))))))))))))
theorem k_laws_FnExactSheetTrim : comp Tryd.prog 69 (Tryd.f11.body.getD .skip) = some c_laws_FnExactSheetTrim := by kernel_rfl

theorem lawSheetTrim (a0 : Sheet) (h0 : T.isL shSheet a0.ts) (q0 : T.sizeL a0.ts ≤ 1048576 → a0.Ok) (σ : Store) : ACalls Tryd.prog 11 [.agg a0.vs] σ fun r _ => r = .t (.bool true) := by
  refine acalls_of Tryd.func11 (by decide +kernel) (code := Tryd.f11.body.getD .skip) (n := 69) (c := c_laws_FnExactSheetTrim) (rs := [(.tmp 2)]) rfl rfl k_laws_FnExactSheetTrim (by kernel_rfl) (by simp) (fun hσ => ?_)
  try simp only [maxLen] at *
  have fin : ∀ {τ : Store}, retV σ.length (fun r _ => r = .t (.bool true)) (σ ++ τ) (some [.t (.bool true)]) := ret_same rfl hσ rfl rfl
  have fin0 : retV σ.length (fun r _ => r = .t (.bool true)) σ (some [.t (.bool true)]) := ret_same0 rfl rfl
  simp -implicitDefEqProofs only [c_laws_FnExactSheetTrim, Sheet.vs, S0, S1, S2, S3, S4, S5, S6, S7, S8, S9, S10, S11, S12, S13, S14, S15, S16, S17, opv, opvs, eget, env0, setD, lenStr, lenSl, isNilP, isNilS, putAt, if_true, if_false, reduceCtorEq, Nat.reduceLeDiff, Nat.reduceEqDiff, Nat.reduceSub, Nat.reduceMul, Nat.reduceAdd]
  refine call_by (by rw [List.append_nil]; exact szSheet a0.ts 1048576 _ h0 (by omega) (by omega)) ?_
  rintro r σ' ⟨⟨m1, rfl, hm1, hs1⟩, rfl⟩
  simp -implicitDefEqProofs only [nat_neg, List.append_nil, Sheet.vs, ne_self, beq_self_eq_true, S0, S1, S2, S3, S4, S5, S6, S7, S8, S9, S10, S11, S12, S13, S14, S15, S16, S17, opv, opvs, eget, env0, setD, lenStr, lenSl, isNilP, isNilS, putAt, if_true, if_false, reduceCtorEq, Nat.reduceLeDiff, Nat.reduceEqDiff, Nat.reduceSub, Nat.reduceMul, Nat.reduceAdd]
  refine cond_split (fun h => ?_) (fun h => ?_)
  · simp -implicitDefEqProofs only [S0, S1, S2, S3, S4, S5, S6, S7, S8, S9, S10, S11, S12, S13, S14, S15, S16, S17, opv, opvs, eget, env0, setD, lenStr, lenSl, isNilP, isNilS, putAt, if_true, if_false, reduceCtorEq, Nat.reduceLeDiff, Nat.reduceEqDiff, Nat.reduceSub, Nat.reduceMul, Nat.reduceAdd]
    first | exact fin | exact fin0
  simp only [decide_eq_false_iff_not, Int.not_lt] at h
  replace hs1 := hs1 h
  simp -implicitDefEqProofs only [nat_neg, List.append_nil, Sheet.vs, ne_self, beq_self_eq_true, S0, S1, S2, S3, S4, S5, S6, S7, S8, S9, S10, S11, S12, S13, S14, S15, S16, S17, opv, opvs, eget, env0, setD, lenStr, lenSl, isNilP, isNilS, putAt, if_true, if_false, reduceCtorEq, Nat.reduceLeDiff, Nat.reduceEqDiff, Nat.reduceSub, Nat.reduceMul, Nat.reduceAdd]
  have o0 := q0 (by omega)
  obtain ⟨s1, es1⟩ : ∃ s, s = σ ++ [Go.Ab.Obj.box a0.vs] := ⟨_, rfl⟩
  have kp1 : Kp σ s1 := by rw [es1]; exact Kp.app _ _
  have ln1 : s1.length = σ.length + 1 := by rw [es1]; simp
  have e1 : s1[σ.length]? = some (.box a0.vs) := by rw [es1]; simp
  simp only [Sheet.vs] at es1 e1
  rw [← es1]
  obtain ⟨hT, hzt⟩ := res_SheetTrim a0 h0 (by omega) o0
  have Sp := fun σ => specF_SheetTrim a0 o0 σ
  have Ip := fun σ => implO_SheetTrim a0 o0 σ
  generalize (resT_SheetTrim a0) = t at hT hzt Sp Ip
  have lt : t.length = 1 := T.isL_len hT
  have hmt : (T.mkVL markTxt 1 t).2 < 4611686018427387904 := by
    have := mkVL_ub (mt := markTxt) (ts := t) (k := 1) (cs := shSheet) (by decide) hT
    omega
  have IpF := fun σ => acalls_frzTL (Ip σ)
  have tk := take_all (len_t lt)
  have on := ones_t t
  have lm := len_t lt
  have toF0 : ∀ σ, ACalls Tryd.prog 27 [.agg a0.vs] σ fun r σ' => r = .agg a0.vs ∧ σ' = σ := fun σ => acalls_frzTL (toSheet a0.ts σ h0 (by omega))
  try simp -implicitDefEqProofs only [nat_neg, List.append_nil, Sheet.vs, e1, tk, on, lm, ne_self, beq_self_eq_true, S0, S1, S2, S3, S4, S5, S6, S7, S8, S9, S10, S11, S12, S13, S14, S15, S16, S17, opv, opvs, eget, env0, setD, lenStr, lenSl, isNilP, isNilS, putAt, if_true, if_false, reduceCtorEq, Nat.reduceLeDiff, Nat.reduceEqDiff, Nat.reduceSub, Nat.reduceMul, Nat.reduceAdd]
  first | refine call_pure (toF0 _) ?_ | refine call_pureQ (fun _ => toF0 _) ?_
  simp -implicitDefEqProofs only [nat_neg, List.append_nil, Sheet.vs, e1, tk, on, lm, ne_self, beq_self_eq_true, S0, S1, S2, S3, S4, S5, S6, S7, S8, S9, S10, S11, S12, S13, S14, S15, S16, S17, opv, opvs, eget, env0, setD, lenStr, lenSl, isNilP, isNilS, putAt, if_true, if_false, reduceCtorEq, Nat.reduceLeDiff, Nat.reduceEqDiff, Nat.reduceSub, Nat.reduceMul, Nat.reduceAdd]
  first | refine call_pure (Sp _) ?_ | refine call_pureQ (fun _ => Sp _) ?_
  simp -implicitDefEqProofs only [nat_neg, List.append_nil, Sheet.vs, e1, tk, on, lm, ne_self, beq_self_eq_true, S0, S1, S2, S3, S4, S5, S6, S7, S8, S9, S10, S11, S12, S13, S14, S15, S16, S17, opv, opvs, eget, env0, setD, lenStr, lenSl, isNilP, isNilS, putAt, if_true, if_false, reduceCtorEq, Nat.reduceLeDiff, Nat.reduceEqDiff, Nat.reduceSub, Nat.reduceMul, Nat.reduceAdd]
  obtain ⟨s2, es2⟩ : ∃ s, s = s1 ++ [Go.Ab.Obj.box (t.map V.t)] := ⟨_, rfl⟩
  have kp2 : Kp s1 s2 := by rw [es2]; exact Kp.app _ _
  have ln2 : s2.length = s1.length + 1 := by rw [es2]; simp
  have e2 : s2[s1.length]? = some (.box (t.map V.t)) := by rw [es2]; simp
  rw [← es2]
  replace e1 := kp2.box e1
  try simp -implicitDefEqProofs only [nat_neg, List.append_nil, Sheet.vs, e1, tk, on, lm, e2, ne_self, beq_self_eq_true, S0, S1, S2, S3, S4, S5, S6, S7, S8, S9, S10, S11, S12, S13, S14, S15, S16, S17, opv, opvs, eget, env0, setD, lenStr, lenSl, isNilP, isNilS, putAt, if_true, if_false, reduceCtorEq, Nat.reduceLeDiff, Nat.reduceEqDiff, Nat.reduceSub, Nat.reduceMul, Nat.reduceAdd]
  refine call_newL (toSheet a0.ts _ h0 (by omega)) ?_
  rintro u3 s3 j3 le3 k3 p3 w3
  replace e1 := k3.box e1
  replace e2 := k3.box e2
  have l3 : u3.length = 1 := by rw [p3.len]; first | rfl | exact lt
  have tk3 := take_all l3
  have on3 := p3.ones
  simp -implicitDefEqProofs only [nat_neg, List.append_nil, Sheet.vs, e1, tk, on, lm, e2, l3, tk3, on3, ne_self, beq_self_eq_true, S0, S1, S2, S3, S4, S5, S6, S7, S8, S9, S10, S11, S12, S13, S14, S15, S16, S17, opv, opvs, eget, env0, setD, lenStr, lenSl, isNilP, isNilS, putAt, if_true, if_false, reduceCtorEq, Nat.reduceLeDiff, Nat.reduceEqDiff, Nat.reduceSub, Nat.reduceMul, Nat.reduceAdd]
  obtain ⟨s4, es4⟩ : ∃ s, s = s3 ++ [Go.Ab.Obj.box u3] := ⟨_, rfl⟩
  have kp4 : Kp s3 s4 := by rw [es4]; exact Kp.app _ _
  have ln4 : s4.length = s3.length + 1 := by rw [es4]; simp
  have e4 : s4[s3.length]? = some (.box u3) := by rw [es4]; simp
  rw [← es4]
  replace e1 := kp4.box e1
  replace e2 := kp4.box e2
  replace p3 := kp4.ownL p3
  try simp -implicitDefEqProofs only [nat_neg, List.append_nil, Sheet.vs, e1, tk, on, lm, e2, l3, tk3, on3, e4, ne_self, beq_self_eq_true, S0, S1, S2, S3, S4, S5, S6, S7, S8, S9, S10, S11, S12, S13, S14, S15, S16, S17, opv, opvs, eget, env0, setD, lenStr, lenSl, isNilP, isNilS, putAt, if_true, if_false, reduceCtorEq, Nat.reduceLeDiff, Nat.reduceEqDiff, Nat.reduceSub, Nat.reduceMul, Nat.reduceAdd]
  refine call_newL (acalls_toL Ip ⟨_, _, rfl, sees_agg p3 rfl (List.prefix_refl _), rfl⟩) ?_
  rintro u5 s5 j5 le5 k5 p5 w5
  replace e1 := k5.box e1
  replace e2 := k5.box e2
  replace e4 := k5.box e4
  replace p3 := k5.ownL p3
  have l5 : u5.length = 1 := by rw [p5.len]; first | rfl | exact lt
  have tk5 := take_all l5
  have on5 := p5.ones
  simp -implicitDefEqProofs only [nat_neg, List.append_nil, Sheet.vs, e1, tk, on, lm, e2, l3, tk3, on3, e4, l5, tk5, on5, ne_self, beq_self_eq_true, S0, S1, S2, S3, S4, S5, S6, S7, S8, S9, S10, S11, S12, S13, S14, S15, S16, S17, opv, opvs, eget, env0, setD, lenStr, lenSl, isNilP, isNilS, putAt, if_true, if_false, reduceCtorEq, Nat.reduceLeDiff, Nat.reduceEqDiff, Nat.reduceSub, Nat.reduceMul, Nat.reduceAdd]
  obtain ⟨s6, es6⟩ : ∃ s, s = s5 ++ [Go.Ab.Obj.box u5] := ⟨_, rfl⟩
  have kp6 : Kp s5 s6 := by rw [es6]; exact Kp.app _ _
  have ln6 : s6.length = s5.length + 1 := by rw [es6]; simp
  have e6 : s6[s5.length]? = some (.box u5) := by rw [es6]; simp
  rw [← es6]
  replace e1 := kp6.box e1
  replace e2 := kp6.box e2
  replace e4 := kp6.box e4
  replace p3 := kp6.ownL p3
  replace p5 := kp6.ownL p5
  try simp -implicitDefEqProofs only [nat_neg, List.append_nil, Sheet.vs, e1, tk, on, lm, e2, l3, tk3, on3, e4, l5, tk5, on5, e6, ne_self, beq_self_eq_true, S0, S1, S2, S3, S4, S5, S6, S7, S8, S9, S10, S11, S12, S13, S14, S15, S16, S17, opv, opvs, eget, env0, setD, lenStr, lenSl, isNilP, isNilS, putAt, if_true, if_false, reduceCtorEq, Nat.reduceLeDiff, Nat.reduceEqDiff, Nat.reduceSub, Nat.reduceMul, Nat.reduceAdd]
  refine call_bor (fun σ => eqSheet t σ hT (by omega)) rfl ⟨_, _, rfl, sees_agg p5 rfl (List.prefix_refl _), _, _, rfl, seesA_ts (by decide) hT rfl, rfl⟩ ?_
  simp -implicitDefEqProofs only [nat_neg, List.append_nil, Sheet.vs, e1, tk, on, lm, e2, l3, tk3, on3, e4, l5, tk5, on5, e6, ne_self, beq_self_eq_true, S0, S1, S2, S3, S4, S5, S6, S7, S8, S9, S10, S11, S12, S13, S14, S15, S16, S17, opv, opvs, eget, env0, setD, lenStr, lenSl, isNilP, isNilS, putAt, if_true, if_false, reduceCtorEq, Nat.reduceLeDiff, Nat.reduceEqDiff, Nat.reduceSub, Nat.reduceMul, Nat.reduceAdd]
  first | refine call_pure (toF0 _) ?_ | refine call_pureQ (fun _ => toF0 _) ?_
  simp -implicitDefEqProofs only [nat_neg, List.append_nil, Sheet.vs, e1, tk, on, lm, e2, l3, tk3, on3, e4, l5, tk5, on5, e6, ne_self, beq_self_eq_true, S0, S1, S2, S3, S4, S5, S6, S7, S8, S9, S10, S11, S12, S13, S14, S15, S16, S17, opv, opvs, eget, env0, setD, lenStr, lenSl, isNilP, isNilS, putAt, if_true, if_false, reduceCtorEq, Nat.reduceLeDiff, Nat.reduceEqDiff, Nat.reduceSub, Nat.reduceMul, Nat.reduceAdd]
  refine call_bor (fun σ => eqSheet a0.ts σ h0 (by omega)) rfl ⟨_, _, rfl, sees_agg p3 rfl (List.prefix_refl _), _, _, rfl, seesA_ts (v := .agg a0.vs) (by decide) h0 rfl, rfl⟩ ?_
  simp -implicitDefEqProofs only [nat_neg, List.append_nil, Sheet.vs, e1, tk, on, lm, e2, l3, tk3, on3, e4, l5, tk5, on5, e6, ne_self, beq_self_eq_true, S0, S1, S2, S3, S4, S5, S6, S7, S8, S9, S10, S11, S12, S13, S14, S15, S16, S17, opv, opvs, eget, env0, setD, lenStr, lenSl, isNilP, isNilS, putAt, if_true, if_false, reduceCtorEq, Nat.reduceLeDiff, Nat.reduceEqDiff, Nat.reduceSub, Nat.reduceMul, Nat.reduceAdd]
  have ub1 : (T.mkVL markTxt 1 a0.ts).2 ≤ 1 * 300000000 := by
    have := mkVL_ub (mt := markTxt) (ts := a0.ts) (k := 1) (cs := shSheet) (by decide) h0
    have h2 : a0.ts.length = 1 := rfl
    omega
  refine call_by (by rw [List.append_nil]; exact markSheet a0.ts u3 j3 1 _ h0 (by omega) p3 w3.1 (Nat.le_refl _) (by omega)) ?_
  rintro r s7 ⟨rfl, q7, le7, kb7⟩
  have kb7' : Kb j3 s6 s7 := kb7
  replace e1 := kb7'.box e1 (wi_out w3 (by omega))
  replace e2 := kb7'.box e2 (wi_out w3 (by omega))
  replace e4 := kb7'.box e4 (wi_out w3 (by omega))
  replace e6 := kb7'.box e6 (wi_out w3 (by omega))
  replace p5 := kb7'.ownL p5 (wi_apart w5 w3 (by omega))
  simp -implicitDefEqProofs only [nat_neg, List.append_nil, Sheet.vs, e1, tk, on, lm, e2, l3, tk3, on3, e4, l5, tk5, on5, e6, ne_self, beq_self_eq_true, S0, S1, S2, S3, S4, S5, S6, S7, S8, S9, S10, S11, S12, S13, S14, S15, S16, S17, opv, opvs, eget, env0, setD, lenStr, lenSl, isNilP, isNilS, putAt, if_true, if_false, reduceCtorEq, Nat.reduceLeDiff, Nat.reduceEqDiff, Nat.reduceSub, Nat.reduceMul, Nat.reduceAdd]
  refine call_bor (fun σ => eqSheet t σ hT (by omega)) rfl ⟨_, _, rfl, sees_agg p5 rfl (List.prefix_refl _), _, _, rfl, seesA_ts (by decide) hT rfl, rfl⟩ ?_
  simp -implicitDefEqProofs only [nat_neg, List.append_nil, Sheet.vs, e1, tk, on, lm, e2, l3, tk3, on3, e4, l5, tk5, on5, e6, ne_self, beq_self_eq_true, S0, S1, S2, S3, S4, S5, S6, S7, S8, S9, S10, S11, S12, S13, S14, S15, S16, S17, opv, opvs, eget, env0, setD, lenStr, lenSl, isNilP, isNilS, putAt, if_true, if_false, reduceCtorEq, Nat.reduceLeDiff, Nat.reduceEqDiff, Nat.reduceSub, Nat.reduceMul, Nat.reduceAdd]
  refine call_by (by rw [List.append_nil]; exact markSheet t u5 j5 1 _ hT (by omega) p5 w5.1 (Nat.le_refl _) hmt) ?_
  rintro r s8 ⟨rfl, q8, le8, kb8⟩
  have kb8' : Kb j5 s7 s8 := kb8
  replace e1 := kb8'.box e1 (wi_out w5 (by omega))
  replace e2 := kb8'.box e2 (wi_out w5 (by omega))
  replace e4 := kb8'.box e4 (wi_out w5 (by omega))
  replace e6 := kb8'.box e6 (wi_out w5 (by omega))
  have Hp := fun σ => heldSheet t 1 σ hT (by omega) (Nat.le_refl _) hmt
  simp -implicitDefEqProofs only [nat_neg, List.append_nil, Sheet.vs, e1, tk, on, lm, e2, l3, tk3, on3, e4, l5, tk5, on5, e6, ne_self, beq_self_eq_true, S0, S1, S2, S3, S4, S5, S6, S7, S8, S9, S10, S11, S12, S13, S14, S15, S16, S17, opv, opvs, eget, env0, setD, lenStr, lenSl, isNilP, isNilS, putAt, if_true, if_false, reduceCtorEq, Nat.reduceLeDiff, Nat.reduceEqDiff, Nat.reduceSub, Nat.reduceMul, Nat.reduceAdd]
  refine call_bor (y := .t (.int .i64 ((T.mkVL markTxt 1 t).2 : Nat))) (fun σ => Hp σ) rfl ⟨_, _, rfl, sees_agg q8 rfl (List.prefix_refl _), _, _, rfl, sees_one rfl, rfl⟩ ?_
  simp -implicitDefEqProofs only [nat_neg, List.append_nil, Sheet.vs, e1, tk, on, lm, e2, l3, tk3, on3, e4, l5, tk5, on5, e6, ne_self, beq_self_eq_true, S0, S1, S2, S3, S4, S5, S6, S7, S8, S9, S10, S11, S12, S13, S14, S15, S16, S17, opv, opvs, eget, env0, setD, lenStr, lenSl, isNilP, isNilS, putAt, if_true, if_false, reduceCtorEq, Nat.reduceLeDiff, Nat.reduceEqDiff, Nat.reduceSub, Nat.reduceMul, Nat.reduceAdd]
  first | refine call_pure (toF0 _) ?_ | refine call_pureQ (fun _ => toF0 _) ?_
  simp -implicitDefEqProofs only [nat_neg, List.append_nil, Sheet.vs, e1, tk, on, lm, e2, l3, tk3, on3, e4, l5, tk5, on5, e6, ne_self, beq_self_eq_true, S0, S1, S2, S3, S4, S5, S6, S7, S8, S9, S10, S11, S12, S13, S14, S15, S16, S17, opv, opvs, eget, env0, setD, lenStr, lenSl, isNilP, isNilS, putAt, if_true, if_false, reduceCtorEq, Nat.reduceLeDiff, Nat.reduceEqDiff, Nat.reduceSub, Nat.reduceMul, Nat.reduceAdd]
  first | refine call_pure (IpF _) ?_ | refine call_pureQ (fun _ => IpF _) ?_
  simp -implicitDefEqProofs only [nat_neg, List.append_nil, Sheet.vs, e1, tk, on, lm, e2, l3, tk3, on3, e4, l5, tk5, on5, e6, ne_self, beq_self_eq_true, S0, S1, S2, S3, S4, S5, S6, S7, S8, S9, S10, S11, S12, S13, S14, S15, S16, S17, opv, opvs, eget, env0, setD, lenStr, lenSl, isNilP, isNilS, putAt, if_true, if_false, reduceCtorEq, Nat.reduceLeDiff, Nat.reduceEqDiff, Nat.reduceSub, Nat.reduceMul, Nat.reduceAdd]
  obtain ⟨s9, es9⟩ : ∃ s, s = s8 ++ [Go.Ab.Obj.box (t.map V.t)] := ⟨_, rfl⟩
  have kp9 : Kp s8 s9 := by rw [es9]; exact Kp.app _ _
  have ln9 : s9.length = s8.length + 1 := by rw [es9]; simp
  have e9 : s9[s8.length]? = some (.box (t.map V.t)) := by rw [es9]; simp
  rw [← es9]
  replace e1 := kp9.box e1
  replace e2 := kp9.box e2
  replace e4 := kp9.box e4
  replace e6 := kp9.box e6
  replace q8 := kp9.ownL q8
  try simp -implicitDefEqProofs only [nat_neg, List.append_nil, Sheet.vs, e1, tk, on, lm, e2, l3, tk3, on3, e4, l5, tk5, on5, e6, e9, ne_self, beq_self_eq_true, S0, S1, S2, S3, S4, S5, S6, S7, S8, S9, S10, S11, S12, S13, S14, S15, S16, S17, opv, opvs, eget, env0, setD, lenStr, lenSl, isNilP, isNilS, putAt, if_true, if_false, reduceCtorEq, Nat.reduceLeDiff, Nat.reduceEqDiff, Nat.reduceSub, Nat.reduceMul, Nat.reduceAdd]
  refine call_pure (eqSheet t _ hT (by omega)) ?_
  simp -implicitDefEqProofs only [nat_neg, List.append_nil, Sheet.vs, e1, tk, on, lm, e2, l3, tk3, on3, e4, l5, tk5, on5, e6, e9, ne_self, beq_self_eq_true, S0, S1, S2, S3, S4, S5, S6, S7, S8, S9, S10, S11, S12, S13, S14, S15, S16, S17, opv, opvs, eget, env0, setD, lenStr, lenSl, isNilP, isNilS, putAt, if_true, if_false, reduceCtorEq, Nat.reduceLeDiff, Nat.reduceEqDiff, Nat.reduceSub, Nat.reduceMul, Nat.reduceAdd]
  refine call_bor (y := .t (.int .i64 ((T.mkVL markTxt 1 t).2 : Nat))) (fun σ => Hp σ) rfl ⟨_, _, rfl, sees_agg q8 rfl (List.prefix_refl _), _, _, rfl, sees_one rfl, rfl⟩ ?_
  simp -implicitDefEqProofs only [nat_neg, List.append_nil, Sheet.vs, e1, tk, on, lm, e2, l3, tk3, on3, e4, l5, tk5, on5, e6, e9, ne_self, beq_self_eq_true, S0, S1, S2, S3, S4, S5, S6, S7, S8, S9, S10, S11, S12, S13, S14, S15, S16, S17, opv, opvs, eget, env0, setD, lenStr, lenSl, isNilP, isNilS, putAt, if_true, if_false, reduceCtorEq, Nat.reduceLeDiff, Nat.reduceEqDiff, Nat.reduceSub, Nat.reduceMul, Nat.reduceAdd]
  refine fin_keep ?_ rfl
  omega
end Go.Proofs.YtkppdeobinefbaaDoor.LSheetTrim
