/- FnExactRecWish: what the law's code does: it returns true. Conditions: none. -/
import Derived.Test.YtleilaipdhmgeaaRecWish
import Derived.Test.YtleilaipdhmgeaaAb4
set_option linter.unusedSimpArgs false
set_option linter.unusedVariables false
set_option linter.defProp false
open Go Go.Ab
set_option maxHeartbeats 4000000
namespace Go.Proofs.Ytleilaipdhmgeaa.LRecWish
open Go.Proofs.Ytleilaipdhmgeaa.W
def c_laws_FnExactRecWish : C := (.seq (.ops [⟨(some 2), none, (.box (.t 0))⟩, ⟨(some 4), none, (.mv (.c (.t (.bool false))))⟩]) (.seq (.seq (.ops [⟨(some 13), none, (.mv (.t 1))⟩, ⟨(some 14), none, (.len true (.t 13))⟩, ⟨(some 15), none, (.bin .gtr (.t 14) (.c (.t (.int .i64 1048576))))⟩]) (.cond (.t 15) (.seq (.ops [⟨(some 4), none, (.mv (.c (.t (.bool true))))⟩]) .ret) .skip)) (.seq (.ops [⟨(some 5), none, (.mv (.c (.t (.int .i64 1048576))))⟩]) (.seq (.ops [⟨(some 16), none, (.load (some 18) (.t 2))⟩, ⟨(some 17), none, (.mv (.t 5))⟩, ⟨(some 18), none, (.call (.c (.fn (.func 43) [])) [(.t 16), (.t 17)])⟩, ⟨(some 5), none, (.mv (.t 18))⟩]) (.seq (.seq (.ops [⟨(some 19), none, (.mv (.t 5))⟩, ⟨(some 20), none, (.bin .lss (.t 19) (.c (.t (.int .i64 0))))⟩]) (.cond (.t 20) (.seq (.ops [⟨(some 4), none, (.mv (.c (.t (.bool true))))⟩]) .ret) .skip)) (.seq (.ops [⟨(some 21), none, (.load (some 18) (.t 2))⟩, ⟨(some 22), none, (.call (.c (.fn (.func 45) [])) [(.t 21)])⟩, ⟨(some 23), none, (.mv (.t 1))⟩, ⟨(some 24), none, (.call (.c (.fn (.func 69) [])) [(.t 22), (.t 23)])⟩, ⟨(some 6), none, (.new [(.t (.int .i64 0)), (.t (.int .i64 0)), (.t (.bool false)), (.t (.int .i64 0)), (.t (.int .i64 0)), .nils, (.t (.int .i64 0)), (.t (.int .i64 0)), .nils, .nils, .nils, (.t (.bool false)), (.t (.bool false)), (.t (.int .i64 0)), .nils, .nils, .nils, (.t (.int .i64 0))])⟩, ⟨none, none, (.store 18 (.t 6) (.t 24))⟩]) (.seq (.ops [⟨(some 25), none, (.load (some 18) (.t 2))⟩, ⟨(some 26), none, (.call (.c (.fn (.func 45) [])) [(.t 25)])⟩, ⟨(some 7), none, (.new [(.t (.int .i64 0)), (.t (.int .i64 0)), (.t (.bool false)), (.t (.int .i64 0)), (.t (.int .i64 0)), .nils, (.t (.int .i64 0)), (.t (.int .i64 0)), .nils, .nils, .nils, (.t (.bool false)), (.t (.bool false)), (.t (.int .i64 0)), .nils, .nils, .nils, (.t (.int .i64 0))])⟩, ⟨none, none, (.store 18 (.t 7) (.t 26))⟩]) (.seq (.ops [⟨(some 27), none, (.load (some 18) (.t 7))⟩, ⟨(some 28), none, (.mv (.t 1))⟩, ⟨(some 29), none, (.call (.c (.fn (.func 70) [])) [(.t 27), (.t 28)])⟩, ⟨(some 8), none, (.new [(.t (.int .i64 0)), (.t (.int .i64 0)), (.t (.bool false)), (.t (.int .i64 0)), (.t (.int .i64 0)), .nils, (.t (.int .i64 0)), (.t (.int .i64 0)), .nils, .nils, .nils, (.t (.bool false)), (.t (.bool false)), (.t (.int .i64 0)), .nils, .nils, .nils, (.t (.int .i64 0))])⟩, ⟨none, none, (.store 18 (.t 8) (.t 29))⟩]) (.seq (.seq (.ops [⟨(some 30), none, (.load (some 18) (.t 8))⟩, ⟨(some 31), none, (.load (some 18) (.t 6))⟩, ⟨(some 32), none, (.call (.c (.fn (.func 40) [])) [(.t 30), (.t 31)])⟩, ⟨(some 33), none, (.un .not (.t 32))⟩]) (.cond (.t 33) (.seq (.ops [⟨(some 4), none, (.mv (.c (.t (.bool false))))⟩]) .ret) .skip)) (.seq (.seq (.drawn [(.mk 0 false ⟨(some 34), none, (.load (some 18) (.t 7))⟩), (.mk 1 false ⟨(some 35), none, (.load (some 18) (.t 2))⟩), (.mk 2 true ⟨(some 36), none, (.call (.c (.fn (.func 45) [])) [(.t 35)])⟩), (.mk 3 false ⟨(some 37), none, (.call (.c (.fn (.func 40) [])) [(.t 34), (.t 36)])⟩), (.mk 4 false ⟨(some 38), none, (.un .not (.t 37))⟩)]) (.cond (.t 38) (.seq (.ops [⟨(some 4), none, (.mv (.c (.t (.bool false))))⟩]) .ret) .skip)) (.seq (.ops [⟨(some 9), none, (.mv (.c (.t (.int .i64 1))))⟩]) (.seq (.ops [⟨(some 39), none, (.load (some 18) (.t 7))⟩, ⟨(some 40), none, (.mv (.t 9))⟩, ⟨(some 41), none, (.call (.c (.fn (.func 41) [])) [(.t 39), (.t 40)])⟩, ⟨(some 9), none, (.mv (.t 41))⟩]) (.seq (.seq (.ops [⟨(some 42), none, (.mv (.t 9))⟩, ⟨(some 43), none, (.bin .lss (.t 42) (.c (.t (.int .i64 0))))⟩, ⟨(some 44), none, (.mv (.t 43))⟩, ⟨(some 45), (some ⟨44, false⟩), (.load (some 18) (.t 8))⟩, ⟨(some 46), (some ⟨44, false⟩), (.load (some 18) (.t 6))⟩, ⟨(some 47), (some ⟨44, false⟩), (.call (.c (.fn (.func 40) [])) [(.t 45), (.t 46)])⟩, ⟨(some 48), (some ⟨44, false⟩), (.un .not (.t 47))⟩, ⟨(some 49), none, (.pick (.t 44) (.c (.t (.bool true))) (.t 48))⟩]) (.cond (.t 49) (.seq (.ops [⟨(some 4), none, (.mv (.c (.t (.bool false))))⟩]) .ret) .skip)) (.seq (.ops [⟨(some 10), none, (.mv (.c (.t (.int .i64 1))))⟩]) (.seq (.ops [⟨(some 50), none, (.load (some 18) (.t 8))⟩, ⟨(some 51), none, (.mv (.t 10))⟩, ⟨(some 52), none, (.call (.c (.fn (.func 41) [])) [(.t 50), (.t 51)])⟩, ⟨(some 10), none, (.mv (.t 52))⟩]) (.seq (.ops [⟨(some 11), none, (.mv (.c (.t (.int .i64 1))))⟩]) (.seq (.ops [⟨(some 53), none, (.load (some 18) (.t 8))⟩, ⟨(some 54), none, (.mv (.t 11))⟩, ⟨(some 55), none, (.call (.c (.fn (.func 42) [])) [(.t 53), (.t 54)])⟩, ⟨(some 11), none, (.mv (.t 55))⟩]) (.seq (.seq (.ops [⟨(some 56), none, (.mv (.t 11))⟩, ⟨(some 57), none, (.bin .lss (.t 56) (.c (.t (.int .i64 0))))⟩]) (.cond (.t 57) (.seq (.ops [⟨(some 4), none, (.mv (.c (.t (.bool false))))⟩]) .ret) .skip)) (.seq (.seq (.ops [⟨(some 58), none, (.mv (.t 11))⟩, ⟨(some 59), none, (.mv (.t 10))⟩, ⟨(some 60), none, (.bin .neq (.t 58) (.t 59))⟩]) (.cond (.t 60) (.seq (.ops [⟨(some 4), none, (.mv (.c (.t (.bool false))))⟩]) .ret) .skip)) (.seq (.ops [⟨(some 61), none, (.load (some 18) (.t 2))⟩, ⟨(some 62), none, (.call (.c (.fn (.func 45) [])) [(.t 61)])⟩, ⟨(some 63), none, (.mv (.t 1))⟩, ⟨(some 64), none, (.call (.c (.fn (.func 70) [])) [(.t 62), (.t 63)])⟩, ⟨(some 12), none, (.new [(.t (.int .i64 0)), (.t (.int .i64 0)), (.t (.bool false)), (.t (.int .i64 0)), (.t (.int .i64 0)), .nils, (.t (.int .i64 0)), (.t (.int .i64 0)), .nils, .nils, .nils, (.t (.bool false)), (.t (.bool false)), (.t (.int .i64 0)), .nils, .nils, .nils, (.t (.int .i64 0))])⟩, ⟨none, none, (.store 18 (.t 12) (.t 64))⟩]) (.seq (.seq (.ops [⟨(some 65), none, (.load (some 18) (.t 12))⟩, ⟨(some 66), none, (.load (some 18) (.t 6))⟩, ⟨(some 67), none, (.call (.c (.fn (.func 40) [])) [(.t 65), (.t 66)])⟩, ⟨(some 68), none, (.un .not (.t 67))⟩]) (.cond (.t 68) (.seq (.ops [⟨(some 4), none, (.mv (.c (.t (.bool false))))⟩]) .ret) .skip)) (.seq (.ops [⟨(some 11), none, (.mv (.c (.t (.int .i64 1))))⟩]) (.seq (.ops [⟨(some 69), none, (.load (some 18) (.t 8))⟩, ⟨(some 70), none, (.mv (.t 11))⟩, ⟨(some 71), none, (.call (.c (.fn (.func 42) [])) [(.t 69), (.t 70)])⟩, ⟨(some 11), none, (.mv (.t 71))⟩]) (.seq (.seq (.ops [⟨(some 72), none, (.mv (.t 11))⟩, ⟨(some 73), none, (.bin .lss (.t 72) (.c (.t (.int .i64 0))))⟩]) (.cond (.t 73) (.seq (.ops [⟨(some 4), none, (.mv (.c (.t (.bool false))))⟩]) .ret) .skip)) (.seq (.seq (.ops [⟨(some 74), none, (.mv (.t 11))⟩, ⟨(some 75), none, (.mv (.t 10))⟩, ⟨(some 76), none, (.bin .neq (.t 74) (.t 75))⟩]) (.cond (.t 76) (.seq (.ops [⟨(some 4), none, (.mv (.c (.t (.bool false))))⟩]) .ret) .skip)) (.seq (.ops [⟨(some 4), none, (.mv (.c (.t (.bool true))))⟩]) .ret))))))))))))))))))))))))))
theorem k_laws_FnExactRecWish : comp Try.prog 77 (Try.f16.body.getD .skip) = some c_laws_FnExactRecWish := by kernel_rfl

theorem lawRecWish (a0 : Recorder) (a1 : List UInt8) (h0 : T.isL shRecorder a0.ts) (q0 : T.sizeL a0.ts ≤ 1048576 → a0.Ok) (h1 : a1.length ≤ maxLen) (σ : Store) : ACalls Try.prog 16 [.agg a0.vs, .t (.str a1)] σ fun r _ => r = .t (.bool true) := by
  refine acalls_of Try.func16 (by decide +kernel) (code := Try.f16.body.getD .skip) (n := 77) (c := c_laws_FnExactRecWish) (rs := [(.tmp 4)]) rfl rfl k_laws_FnExactRecWish (by kernel_rfl) (by simp) (fun hσ => ?_)
  try simp only [maxLen] at *
  have fin : ∀ {τ : Store}, retV σ.length (fun r _ => r = .t (.bool true)) (σ ++ τ) (some [.t (.bool true)]) := ret_same rfl hσ rfl rfl
  have fin0 : retV σ.length (fun r _ => r = .t (.bool true)) σ (some [.t (.bool true)]) := ret_same0 rfl rfl
  simp -implicitDefEqProofs only [c_laws_FnExactRecWish, Recorder.vs, S0, S1, S2, S3, S4, S5, S6, S7, S8, S9, S10, S11, S12, S13, S14, S15, opv, opvs, eget, env0, setD, lenStr, lenSl, isNilP, isNilS, putAt, if_true, if_false, reduceCtorEq, Nat.reduceLeDiff, Nat.reduceEqDiff, Nat.reduceSub, Nat.reduceMul, Nat.reduceAdd]
  refine cond_split (fun g1 => ?_) (fun g1 => ?_)
  · simp -implicitDefEqProofs only [S0, S1, S2, S3, S4, S5, S6, S7, S8, S9, S10, S11, S12, S13, S14, S15, opv, opvs, eget, env0, setD, lenStr, lenSl, isNilP, isNilS, putAt, if_true, if_false, reduceCtorEq, Nat.reduceLeDiff, Nat.reduceEqDiff, Nat.reduceSub, Nat.reduceMul, Nat.reduceAdd]
    first | exact fin | exact fin0
  replace g1 : a1.length ≤ 1048576 := by simp at g1; omega
  simp -implicitDefEqProofs only [nat_neg, List.append_nil, Recorder.vs, ne_self, beq_self_eq_true, S0, S1, S2, S3, S4, S5, S6, S7, S8, S9, S10, S11, S12, S13, S14, S15, opv, opvs, eget, env0, setD, lenStr, lenSl, isNilP, isNilS, putAt, if_true, if_false, reduceCtorEq, Nat.reduceLeDiff, Nat.reduceEqDiff, Nat.reduceSub, Nat.reduceMul, Nat.reduceAdd]
  refine call_by (by rw [List.append_nil]; exact szRecorder a0.ts 1048576 _ h0 (by omega) (by omega)) ?_
  rintro r σ' ⟨⟨m1, rfl, hm1, hs1⟩, rfl⟩
  simp -implicitDefEqProofs only [nat_neg, List.append_nil, Recorder.vs, ne_self, beq_self_eq_true, S0, S1, S2, S3, S4, S5, S6, S7, S8, S9, S10, S11, S12, S13, S14, S15, opv, opvs, eget, env0, setD, lenStr, lenSl, isNilP, isNilS, putAt, if_true, if_false, reduceCtorEq, Nat.reduceLeDiff, Nat.reduceEqDiff, Nat.reduceSub, Nat.reduceMul, Nat.reduceAdd]
  refine cond_split (fun h => ?_) (fun h => ?_)
  · simp -implicitDefEqProofs only [S0, S1, S2, S3, S4, S5, S6, S7, S8, S9, S10, S11, S12, S13, S14, S15, opv, opvs, eget, env0, setD, lenStr, lenSl, isNilP, isNilS, putAt, if_true, if_false, reduceCtorEq, Nat.reduceLeDiff, Nat.reduceEqDiff, Nat.reduceSub, Nat.reduceMul, Nat.reduceAdd]
    first | exact fin | exact fin0
  simp only [decide_eq_false_iff_not, Int.not_lt] at h
  replace hs1 := hs1 h
  simp -implicitDefEqProofs only [nat_neg, List.append_nil, Recorder.vs, ne_self, beq_self_eq_true, S0, S1, S2, S3, S4, S5, S6, S7, S8, S9, S10, S11, S12, S13, S14, S15, opv, opvs, eget, env0, setD, lenStr, lenSl, isNilP, isNilS, putAt, if_true, if_false, reduceCtorEq, Nat.reduceLeDiff, Nat.reduceEqDiff, Nat.reduceSub, Nat.reduceMul, Nat.reduceAdd]
  have o0 := q0 (by omega)
  have o1 : a1.length ≤ 1048576 := by omega
  obtain ⟨s1, es1⟩ : ∃ s, s = σ ++ [Go.Ab.Obj.box a0.vs] := ⟨_, rfl⟩
  have kp1 : Kp σ s1 := by rw [es1]; exact Kp.app _ _
  have ln1 : s1.length = σ.length + 1 := by rw [es1]; simp
  have e1 : s1[σ.length]? = some (.box a0.vs) := by rw [es1]; simp
  simp only [Recorder.vs] at es1 e1
  rw [← es1]
  obtain ⟨hT, hzt⟩ := res_RecWish a0 h0 (by omega) o0 a1 o1
  have Sp := fun σ => specF_RecWish a0 o0 a1 o1 σ
  have Ip := fun σ => implO_RecWish a0 o0 a1 o1 σ
  generalize (resT_RecWish a0 a1) = t at hT hzt Sp Ip
  have lt : t.length = 18 := T.isL_len hT
  have hmt : (T.mkVL markTxt 1 t).2 < 4611686018427387904 := by
    have := mkVL_ub (mt := markTxt) (ts := t) (k := 1) (cs := shRecorder) (by decide) hT
    omega
  have IpF := fun σ => acalls_frzTL (Ip σ)
  have tk := take_all (len_t lt)
  have on := ones_t t
  have lm := len_t lt
  have toF0 : ∀ σ, ACalls Try.prog 45 [.agg a0.vs] σ fun r σ' => r = .agg a0.vs ∧ σ' = σ := fun σ => acalls_frzTL (toRecorder a0.ts σ h0 (by omega))
  try simp -implicitDefEqProofs only [nat_neg, List.append_nil, Recorder.vs, e1, tk, on, lm, ne_self, beq_self_eq_true, S0, S1, S2, S3, S4, S5, S6, S7, S8, S9, S10, S11, S12, S13, S14, S15, opv, opvs, eget, env0, setD, lenStr, lenSl, isNilP, isNilS, putAt, if_true, if_false, reduceCtorEq, Nat.reduceLeDiff, Nat.reduceEqDiff, Nat.reduceSub, Nat.reduceMul, Nat.reduceAdd]
  refine call_pure (toF0 _) ?_
  simp -implicitDefEqProofs only [nat_neg, List.append_nil, Recorder.vs, e1, tk, on, lm, ne_self, beq_self_eq_true, S0, S1, S2, S3, S4, S5, S6, S7, S8, S9, S10, S11, S12, S13, S14, S15, opv, opvs, eget, env0, setD, lenStr, lenSl, isNilP, isNilS, putAt, if_true, if_false, reduceCtorEq, Nat.reduceLeDiff, Nat.reduceEqDiff, Nat.reduceSub, Nat.reduceMul, Nat.reduceAdd]
  refine call_pure (Sp _) ?_
  simp -implicitDefEqProofs only [nat_neg, List.append_nil, Recorder.vs, e1, tk, on, lm, ne_self, beq_self_eq_true, S0, S1, S2, S3, S4, S5, S6, S7, S8, S9, S10, S11, S12, S13, S14, S15, opv, opvs, eget, env0, setD, lenStr, lenSl, isNilP, isNilS, putAt, if_true, if_false, reduceCtorEq, Nat.reduceLeDiff, Nat.reduceEqDiff, Nat.reduceSub, Nat.reduceMul, Nat.reduceAdd]
  obtain ⟨s2, es2⟩ : ∃ s, s = s1 ++ [Go.Ab.Obj.box (t.map V.t)] := ⟨_, rfl⟩
  have kp2 : Kp s1 s2 := by rw [es2]; exact Kp.app _ _
  have ln2 : s2.length = s1.length + 1 := by rw [es2]; simp
  have e2 : s2[s1.length]? = some (.box (t.map V.t)) := by rw [es2]; simp
  rw [← es2]
  replace e1 := kp2.box e1
  try simp -implicitDefEqProofs only [nat_neg, List.append_nil, Recorder.vs, e1, tk, on, lm, e2, ne_self, beq_self_eq_true, S0, S1, S2, S3, S4, S5, S6, S7, S8, S9, S10, S11, S12, S13, S14, S15, opv, opvs, eget, env0, setD, lenStr, lenSl, isNilP, isNilS, putAt, if_true, if_false, reduceCtorEq, Nat.reduceLeDiff, Nat.reduceEqDiff, Nat.reduceSub, Nat.reduceMul, Nat.reduceAdd]
  refine call_newL (toRecorder a0.ts _ h0 (by omega)) ?_
  rintro u3 s3 j3 le3 k3 p3 w3
  replace e1 := k3.box e1
  replace e2 := k3.box e2
  have l3 : u3.length = 18 := by rw [p3.len]; first | rfl | exact lt
  have tk3 := take_all l3
  have on3 := p3.ones
  simp -implicitDefEqProofs only [nat_neg, List.append_nil, Recorder.vs, e1, tk, on, lm, e2, l3, tk3, on3, ne_self, beq_self_eq_true, S0, S1, S2, S3, S4, S5, S6, S7, S8, S9, S10, S11, S12, S13, S14, S15, opv, opvs, eget, env0, setD, lenStr, lenSl, isNilP, isNilS, putAt, if_true, if_false, reduceCtorEq, Nat.reduceLeDiff, Nat.reduceEqDiff, Nat.reduceSub, Nat.reduceMul, Nat.reduceAdd]
  obtain ⟨s4, es4⟩ : ∃ s, s = s3 ++ [Go.Ab.Obj.box u3] := ⟨_, rfl⟩
  have kp4 : Kp s3 s4 := by rw [es4]; exact Kp.app _ _
  have ln4 : s4.length = s3.length + 1 := by rw [es4]; simp
  have e4 : s4[s3.length]? = some (.box u3) := by rw [es4]; simp
  rw [← es4]
  replace e1 := kp4.box e1
  replace e2 := kp4.box e2
  replace p3 := kp4.ownL p3
  try simp -implicitDefEqProofs only [nat_neg, List.append_nil, Recorder.vs, e1, tk, on, lm, e2, l3, tk3, on3, e4, ne_self, beq_self_eq_true, S0, S1, S2, S3, S4, S5, S6, S7, S8, S9, S10, S11, S12, S13, S14, S15, opv, opvs, eget, env0, setD, lenStr, lenSl, isNilP, isNilS, putAt, if_true, if_false, reduceCtorEq, Nat.reduceLeDiff, Nat.reduceEqDiff, Nat.reduceSub, Nat.reduceMul, Nat.reduceAdd]
  refine call_newL (acalls_toL Ip ⟨_, _, rfl, sees_agg p3 rfl (List.prefix_refl _), _, _, rfl, sees_one rfl, rfl⟩) ?_
  rintro u5 s5 j5 le5 k5 p5 w5
  replace e1 := k5.box e1
  replace e2 := k5.box e2
  replace e4 := k5.box e4
  replace p3 := k5.ownL p3
  have l5 : u5.length = 18 := by rw [p5.len]; first | rfl | exact lt
  have tk5 := take_all l5
  have on5 := p5.ones
  simp -implicitDefEqProofs only [nat_neg, List.append_nil, Recorder.vs, e1, tk, on, lm, e2, l3, tk3, on3, e4, l5, tk5, on5, ne_self, beq_self_eq_true, S0, S1, S2, S3, S4, S5, S6, S7, S8, S9, S10, S11, S12, S13, S14, S15, opv, opvs, eget, env0, setD, lenStr, lenSl, isNilP, isNilS, putAt, if_true, if_false, reduceCtorEq, Nat.reduceLeDiff, Nat.reduceEqDiff, Nat.reduceSub, Nat.reduceMul, Nat.reduceAdd]
  obtain ⟨s6, es6⟩ : ∃ s, s = s5 ++ [Go.Ab.Obj.box u5] := ⟨_, rfl⟩
  have kp6 : Kp s5 s6 := by rw [es6]; exact Kp.app _ _
  have ln6 : s6.length = s5.length + 1 := by rw [es6]; simp
  have e6 : s6[s5.length]? = some (.box u5) := by rw [es6]; simp
  rw [← es6]
  replace e1 := kp6.box e1
  replace e2 := kp6.box e2
  replace e4 := kp6.box e4
  replace p3 := kp6.ownL p3
  replace p5 := kp6.ownL p5
  try simp -implicitDefEqProofs only [nat_neg, List.append_nil, Recorder.vs, e1, tk, on, lm, e2, l3, tk3, on3, e4, l5, tk5, on5, e6, ne_self, beq_self_eq_true, S0, S1, S2, S3, S4, S5, S6, S7, S8, S9, S10, S11, S12, S13, S14, S15, opv, opvs, eget, env0, setD, lenStr, lenSl, isNilP, isNilS, putAt, if_true, if_false, reduceCtorEq, Nat.reduceLeDiff, Nat.reduceEqDiff, Nat.reduceSub, Nat.reduceMul, Nat.reduceAdd]
  refine call_bor (fun σ => eqRecorder t σ hT (by omega)) rfl ⟨_, _, rfl, sees_agg p5 rfl (List.prefix_refl _), _, _, rfl, seesA_ts (by decide) hT rfl, rfl⟩ ?_
  simp -implicitDefEqProofs only [nat_neg, List.append_nil, Recorder.vs, e1, tk, on, lm, e2, l3, tk3, on3, e4, l5, tk5, on5, e6, ne_self, beq_self_eq_true, S0, S1, S2, S3, S4, S5, S6, S7, S8, S9, S10, S11, S12, S13, S14, S15, opv, opvs, eget, env0, setD, lenStr, lenSl, isNilP, isNilS, putAt, if_true, if_false, reduceCtorEq, Nat.reduceLeDiff, Nat.reduceEqDiff, Nat.reduceSub, Nat.reduceMul, Nat.reduceAdd]
  refine call_pure (toF0 _) ?_
  simp -implicitDefEqProofs only [nat_neg, List.append_nil, Recorder.vs, e1, tk, on, lm, e2, l3, tk3, on3, e4, l5, tk5, on5, e6, ne_self, beq_self_eq_true, S0, S1, S2, S3, S4, S5, S6, S7, S8, S9, S10, S11, S12, S13, S14, S15, opv, opvs, eget, env0, setD, lenStr, lenSl, isNilP, isNilS, putAt, if_true, if_false, reduceCtorEq, Nat.reduceLeDiff, Nat.reduceEqDiff, Nat.reduceSub, Nat.reduceMul, Nat.reduceAdd]
  refine call_bor (fun σ => eqRecorder a0.ts σ h0 (by omega)) rfl ⟨_, _, rfl, sees_agg p3 rfl (List.prefix_refl _), _, _, rfl, seesA_ts (v := .agg a0.vs) (by decide) h0 rfl, rfl⟩ ?_
  simp -implicitDefEqProofs only [nat_neg, List.append_nil, Recorder.vs, e1, tk, on, lm, e2, l3, tk3, on3, e4, l5, tk5, on5, e6, ne_self, beq_self_eq_true, S0, S1, S2, S3, S4, S5, S6, S7, S8, S9, S10, S11, S12, S13, S14, S15, opv, opvs, eget, env0, setD, lenStr, lenSl, isNilP, isNilS, putAt, if_true, if_false, reduceCtorEq, Nat.reduceLeDiff, Nat.reduceEqDiff, Nat.reduceSub, Nat.reduceMul, Nat.reduceAdd]
  have ub1 : (T.mkVL markTxt 1 a0.ts).2 ≤ 1 * 300000000 := by
    have := mkVL_ub (mt := markTxt) (ts := a0.ts) (k := 1) (cs := shRecorder) (by decide) h0
    have h2 : a0.ts.length = 18 := rfl
    omega
  refine call_by (by rw [List.append_nil]; exact markRecorder a0.ts u3 j3 1 _ h0 (by omega) p3 w3.1 (Nat.le_refl _) (by omega)) ?_
  rintro r s7 ⟨rfl, q7, le7, kb7⟩
  have kb7' : Kb j3 s6 s7 := kb7
  replace e1 := kb7'.box e1 (wi_out w3 (by omega))
  replace e2 := kb7'.box e2 (wi_out w3 (by omega))
  replace e4 := kb7'.box e4 (wi_out w3 (by omega))
  replace e6 := kb7'.box e6 (wi_out w3 (by omega))
  replace p5 := kb7'.ownL p5 (wi_apart w5 w3 (by omega))
  simp -implicitDefEqProofs only [nat_neg, List.append_nil, Recorder.vs, e1, tk, on, lm, e2, l3, tk3, on3, e4, l5, tk5, on5, e6, ne_self, beq_self_eq_true, S0, S1, S2, S3, S4, S5, S6, S7, S8, S9, S10, S11, S12, S13, S14, S15, opv, opvs, eget, env0, setD, lenStr, lenSl, isNilP, isNilS, putAt, if_true, if_false, reduceCtorEq, Nat.reduceLeDiff, Nat.reduceEqDiff, Nat.reduceSub, Nat.reduceMul, Nat.reduceAdd]
  refine call_bor (fun σ => eqRecorder t σ hT (by omega)) rfl ⟨_, _, rfl, sees_agg p5 rfl (List.prefix_refl _), _, _, rfl, seesA_ts (by decide) hT rfl, rfl⟩ ?_
  simp -implicitDefEqProofs only [nat_neg, List.append_nil, Recorder.vs, e1, tk, on, lm, e2, l3, tk3, on3, e4, l5, tk5, on5, e6, ne_self, beq_self_eq_true, S0, S1, S2, S3, S4, S5, S6, S7, S8, S9, S10, S11, S12, S13, S14, S15, opv, opvs, eget, env0, setD, lenStr, lenSl, isNilP, isNilS, putAt, if_true, if_false, reduceCtorEq, Nat.reduceLeDiff, Nat.reduceEqDiff, Nat.reduceSub, Nat.reduceMul, Nat.reduceAdd]
  refine call_by (by rw [List.append_nil]; exact markRecorder t u5 j5 1 _ hT (by omega) p5 w5.1 (Nat.le_refl _) hmt) ?_
  rintro r s8 ⟨rfl, q8, le8, kb8⟩
  have kb8' : Kb j5 s7 s8 := kb8
  replace e1 := kb8'.box e1 (wi_out w5 (by omega))
  replace e2 := kb8'.box e2 (wi_out w5 (by omega))
  replace e4 := kb8'.box e4 (wi_out w5 (by omega))
  replace e6 := kb8'.box e6 (wi_out w5 (by omega))
  have Hp := fun σ => heldRecorder t 1 σ hT (by omega) (Nat.le_refl _) hmt
  simp -implicitDefEqProofs only [nat_neg, List.append_nil, Recorder.vs, e1, tk, on, lm, e2, l3, tk3, on3, e4, l5, tk5, on5, e6, ne_self, beq_self_eq_true, S0, S1, S2, S3, S4, S5, S6, S7, S8, S9, S10, S11, S12, S13, S14, S15, opv, opvs, eget, env0, setD, lenStr, lenSl, isNilP, isNilS, putAt, if_true, if_false, reduceCtorEq, Nat.reduceLeDiff, Nat.reduceEqDiff, Nat.reduceSub, Nat.reduceMul, Nat.reduceAdd]
  refine call_bor (y := .t (.int .i64 ((T.mkVL markTxt 1 t).2 : Nat))) (fun σ => Hp σ) rfl ⟨_, _, rfl, sees_agg q8 rfl (List.prefix_refl _), _, _, rfl, sees_one rfl, rfl⟩ ?_
  simp -implicitDefEqProofs only [nat_neg, List.append_nil, Recorder.vs, e1, tk, on, lm, e2, l3, tk3, on3, e4, l5, tk5, on5, e6, ne_self, beq_self_eq_true, S0, S1, S2, S3, S4, S5, S6, S7, S8, S9, S10, S11, S12, S13, S14, S15, opv, opvs, eget, env0, setD, lenStr, lenSl, isNilP, isNilS, putAt, if_true, if_false, reduceCtorEq, Nat.reduceLeDiff, Nat.reduceEqDiff, Nat.reduceSub, Nat.reduceMul, Nat.reduceAdd]
  refine call_pure (toF0 _) ?_
  simp -implicitDefEqProofs only [nat_neg, List.append_nil, Recorder.vs, e1, tk, on, lm, e2, l3, tk3, on3, e4, l5, tk5, on5, e6, ne_self, beq_self_eq_true, S0, S1, S2, S3, S4, S5, S6, S7, S8, S9, S10, S11, S12, S13, S14, S15, opv, opvs, eget, env0, setD, lenStr, lenSl, isNilP, isNilS, putAt, if_true, if_false, reduceCtorEq, Nat.reduceLeDiff, Nat.reduceEqDiff, Nat.reduceSub, Nat.reduceMul, Nat.reduceAdd]
  refine call_pure (IpF _) ?_
  simp -implicitDefEqProofs only [nat_neg, List.append_nil, Recorder.vs, e1, tk, on, lm, e2, l3, tk3, on3, e4, l5, tk5, on5, e6, ne_self, beq_self_eq_true, S0, S1, S2, S3, S4, S5, S6, S7, S8, S9, S10, S11, S12, S13, S14, S15, opv, opvs, eget, env0, setD, lenStr, lenSl, isNilP, isNilS, putAt, if_true, if_false, reduceCtorEq, Nat.reduceLeDiff, Nat.reduceEqDiff, Nat.reduceSub, Nat.reduceMul, Nat.reduceAdd]
  obtain ⟨s9, es9⟩ : ∃ s, s = s8 ++ [Go.Ab.Obj.box (t.map V.t)] := ⟨_, rfl⟩
  have kp9 : Kp s8 s9 := by rw [es9]; exact Kp.app _ _
  have ln9 : s9.length = s8.length + 1 := by rw [es9]; simp
  have e9 : s9[s8.length]? = some (.box (t.map V.t)) := by rw [es9]; simp
  rw [← es9]
  replace e1 := kp9.box e1
  replace e2 := kp9.box e2
  replace e4 := kp9.box e4
  replace e6 := kp9.box e6
  replace q8 := kp9.ownL q8
  try simp -implicitDefEqProofs only [nat_neg, List.append_nil, Recorder.vs, e1, tk, on, lm, e2, l3, tk3, on3, e4, l5, tk5, on5, e6, e9, ne_self, beq_self_eq_true, S0, S1, S2, S3, S4, S5, S6, S7, S8, S9, S10, S11, S12, S13, S14, S15, opv, opvs, eget, env0, setD, lenStr, lenSl, isNilP, isNilS, putAt, if_true, if_false, reduceCtorEq, Nat.reduceLeDiff, Nat.reduceEqDiff, Nat.reduceSub, Nat.reduceMul, Nat.reduceAdd]
  refine call_pure (eqRecorder t _ hT (by omega)) ?_
  simp -implicitDefEqProofs only [nat_neg, List.append_nil, Recorder.vs, e1, tk, on, lm, e2, l3, tk3, on3, e4, l5, tk5, on5, e6, e9, ne_self, beq_self_eq_true, S0, S1, S2, S3, S4, S5, S6, S7, S8, S9, S10, S11, S12, S13, S14, S15, opv, opvs, eget, env0, setD, lenStr, lenSl, isNilP, isNilS, putAt, if_true, if_false, reduceCtorEq, Nat.reduceLeDiff, Nat.reduceEqDiff, Nat.reduceSub, Nat.reduceMul, Nat.reduceAdd]
  refine call_bor (y := .t (.int .i64 ((T.mkVL markTxt 1 t).2 : Nat))) (fun σ => Hp σ) rfl ⟨_, _, rfl, sees_agg q8 rfl (List.prefix_refl _), _, _, rfl, sees_one rfl, rfl⟩ ?_
  simp -implicitDefEqProofs only [nat_neg, List.append_nil, Recorder.vs, e1, tk, on, lm, e2, l3, tk3, on3, e4, l5, tk5, on5, e6, e9, ne_self, beq_self_eq_true, S0, S1, S2, S3, S4, S5, S6, S7, S8, S9, S10, S11, S12, S13, S14, S15, opv, opvs, eget, env0, setD, lenStr, lenSl, isNilP, isNilS, putAt, if_true, if_false, reduceCtorEq, Nat.reduceLeDiff, Nat.reduceEqDiff, Nat.reduceSub, Nat.reduceMul, Nat.reduceAdd]
  refine fin_keep ?_ rfl
  omega
end Go.Proofs.Ytleilaipdhmgeaa.LRecWish
