/- FnExactGateFill: what the law's code does: it returns true. Conditions: none. -/
import Derived.Test.YtgdmgoidfglobaaGateFillR
import Derived.Test.YtgdmgoidfglobaaMarkGate
import Derived.Test.YtgdmgoidfglobaaAb4
set_option linter.unusedSimpArgs false
set_option linter.unusedVariables false
set_option linter.defProp false
open Go Go.Ab
set_option maxHeartbeats 4000000
namespace Go.Proofs.Ytgdmgoidfglobaa.LGateFill
open Go.Proofs.Ytgdmgoidfglobaa.W
def c_laws_FnExactGateFill : C := (.seq (.ops [⟨(some 3), none, (.box (.t 1))⟩, ⟨(some 4), none, (.mv (.c (.t (.bool false))))⟩]) (.seq (.ops [⟨(some 5), none, (.mv (.c (.t (.int .i64 1048576))))⟩]) (.seq (.ops [⟨(some 14), none, (.mv (.t 0))⟩, ⟨(some 15), none, (.mv (.t 5))⟩, ⟨(some 16), none, (.call (.c (.fn (.func 50) [])) [(.t 14), (.t 15)])⟩, ⟨(some 5), none, (.mv (.t 16))⟩]) (.seq (.seq (.ops [⟨(some 17), none, (.mv (.t 5))⟩, ⟨(some 18), none, (.bin .lss (.t 17) (.c (.t (.int .i64 0))))⟩]) (.cond (.t 18) (.seq (.ops [⟨(some 4), none, (.mv (.c (.t (.bool true))))⟩]) .ret) .skip)) (.seq (.ops [⟨(some 19), none, (.load (some 7) (.t 3))⟩, ⟨(some 20), none, (.mv (.t 5))⟩, ⟨(some 21), none, (.call (.c (.fn (.func 45) [])) [(.t 19), (.t 20)])⟩, ⟨(some 5), none, (.mv (.t 21))⟩]) (.seq (.seq (.ops [⟨(some 22), none, (.mv (.t 5))⟩, ⟨(some 23), none, (.bin .lss (.t 22) (.c (.t (.int .i64 0))))⟩]) (.cond (.t 23) (.seq (.ops [⟨(some 4), none, (.mv (.c (.t (.bool true))))⟩]) .ret) .skip)) (.seq (.drawn [(.mk 0 false ⟨(some 24), none, (.mv (.t 0))⟩ []), (.mk 1 false ⟨(some 25), none, (.callQ (.c (.fn (.func 52) [])) [(.t 24)])⟩ []), (.mk 2 false ⟨(some 26), none, (.load (some 7) (.t 3))⟩ []), (.mk 3 false ⟨(some 27), none, (.callQ (.c (.fn (.func 47) [])) [(.t 26)])⟩ []), (.mk 4 false ⟨(some 28), none, (.callQ (.c (.fn (.func 55) [])) [(.t 25), (.t 27)])⟩ []), (.mk 5 true ⟨(some 6), none, (.new [(.t (.str [])), (.t (.str [])), (.t (.str [])), .nils, (.t (.bool false)), .nils, (.t (.int .i64 0))])⟩ [⟨(some 25), none, (.callQ (.c (.fn (.func 52) [])) [(.t 24)])⟩, ⟨(some 26), none, (.load (some 7) (.t 3))⟩, ⟨(some 27), none, (.callQ (.c (.fn (.func 47) [])) [(.t 26)])⟩, ⟨(some 28), none, (.callQ (.c (.fn (.func 55) [])) [(.t 25), (.t 27)])⟩]), (.mk 6 false ⟨none, none, (.store 7 (.t 6) (.t 28))⟩ [])]) (.seq (.ops [⟨(some 29), none, (.mv (.t 0))⟩, ⟨(some 30), none, (.call (.c (.fn (.func 52) [])) [(.t 29)])⟩, ⟨(some 7), none, (.mv (.t 30))⟩]) (.seq (.ops [⟨(some 31), none, (.load (some 7) (.t 3))⟩, ⟨(some 32), none, (.call (.c (.fn (.func 47) [])) [(.t 31)])⟩, ⟨(some 8), none, (.new [(.t (.str [])), (.t (.str [])), (.t (.str [])), .nils, (.t (.bool false)), .nils, (.t (.int .i64 0))])⟩, ⟨none, none, (.store 7 (.t 8) (.t 32))⟩]) (.seq (.ops [⟨(some 33), none, (.mv (.t 7))⟩, ⟨(some 34), none, (.load (some 7) (.t 8))⟩, ⟨(some 35), none, (.call (.c (.fn (.func 56) [])) [(.t 33), (.t 34)])⟩, ⟨(some 9), none, (.new [(.t (.str [])), (.t (.str [])), (.t (.str [])), .nils, (.t (.bool false)), .nils, (.t (.int .i64 0))])⟩, ⟨none, none, (.store 7 (.t 9) (.t 35))⟩]) (.seq (.seq (.ops [⟨(some 36), none, (.load (some 7) (.t 9))⟩, ⟨(some 37), none, (.load (some 7) (.t 6))⟩, ⟨(some 38), none, (.call (.c (.fn (.func 49) [])) [(.t 36), (.t 37)])⟩, ⟨(some 39), none, (.un .not (.t 38))⟩]) (.cond (.t 39) (.seq (.ops [⟨(some 4), none, (.mv (.c (.t (.bool false))))⟩]) .ret) .skip)) (.seq (.seq (.ops [⟨(some 40), none, (.mv (.t 7))⟩, ⟨(some 41), none, (.mv (.t 0))⟩, ⟨(some 42), none, (.call (.c (.fn (.func 52) [])) [(.t 41)])⟩, ⟨(some 43), none, (.call (.c (.fn (.func 54) [])) [(.t 40), (.t 42)])⟩, ⟨(some 44), none, (.un .not (.t 43))⟩]) (.cond (.t 44) (.seq (.ops [⟨(some 4), none, (.mv (.c (.t (.bool false))))⟩]) .ret) .skip)) (.seq (.seq (.drawn [(.mk 0 false ⟨(some 45), none, (.load (some 7) (.t 8))⟩ []), (.mk 1 false ⟨(some 46), none, (.load (some 7) (.t 3))⟩ []), (.mk 2 true ⟨(some 47), none, (.call (.c (.fn (.func 47) [])) [(.t 46)])⟩ [⟨(some 45), none, (.load (some 7) (.t 8))⟩]), (.mk 3 false ⟨(some 48), none, (.call (.c (.fn (.func 49) [])) [(.t 45), (.t 47)])⟩ []), (.mk 4 false ⟨(some 49), none, (.un .not (.t 48))⟩ [])]) (.cond (.t 49) (.seq (.ops [⟨(some 4), none, (.mv (.c (.t (.bool false))))⟩]) .ret) .skip)) (.seq (.ops [⟨(some 10), none, (.mv (.c (.t (.int .i64 1))))⟩]) (.seq (.ops [⟨(some 50), none, (.mv (.t 7))⟩, ⟨(some 51), none, (.mv (.t 10))⟩, ⟨(some 52), none, (.call (.c (.fn (.func 57) [])) [(.t 50), (.t 51)])⟩, ⟨(some 10), none, (.mv (.t 52))⟩]) (.seq (.ops [⟨(some 53), none, (.load (some 7) (.t 8))⟩, ⟨(some 54), none, (.mv (.t 10))⟩, ⟨(some 55), none, (.call (.c (.fn (.func 58) [])) [(.t 53), (.t 54)])⟩, ⟨(some 10), none, (.mv (.t 55))⟩]) (.seq (.seq (.ops [⟨(some 56), none, (.mv (.t 10))⟩, ⟨(some 57), none, (.bin .lss (.t 56) (.c (.t (.int .i64 0))))⟩, ⟨(some 58), none, (.mv (.t 57))⟩, ⟨(some 59), (some ⟨58, false⟩), (.load (some 7) (.t 9))⟩, ⟨(some 60), (some ⟨58, false⟩), (.load (some 7) (.t 6))⟩, ⟨(some 61), (some ⟨58, false⟩), (.call (.c (.fn (.func 49) [])) [(.t 59), (.t 60)])⟩, ⟨(some 62), (some ⟨58, false⟩), (.un .not (.t 61))⟩, ⟨(some 63), none, (.pick (.t 58) (.c (.t (.bool true))) (.t 62))⟩]) (.cond (.t 63) (.seq (.ops [⟨(some 4), none, (.mv (.c (.t (.bool false))))⟩]) .ret) .skip)) (.seq (.ops [⟨(some 11), none, (.mv (.c (.t (.int .i64 1))))⟩]) (.seq (.ops [⟨(some 64), none, (.load (some 7) (.t 9))⟩, ⟨(some 65), none, (.mv (.t 11))⟩, ⟨(some 66), none, (.call (.c (.fn (.func 58) [])) [(.t 64), (.t 65)])⟩, ⟨(some 11), none, (.mv (.t 66))⟩]) (.seq (.ops [⟨(some 12), none, (.mv (.c (.t (.int .i64 1))))⟩]) (.seq (.ops [⟨(some 67), none, (.load (some 7) (.t 9))⟩, ⟨(some 68), none, (.mv (.t 12))⟩, ⟨(some 69), none, (.call (.c (.fn (.func 59) [])) [(.t 67), (.t 68)])⟩, ⟨(some 12), none, (.mv (.t 69))⟩]) (.seq (.seq (.ops [⟨(some 70), none, (.mv (.t 12))⟩, ⟨(some 71), none, (.bin .lss (.t 70) (.c (.t (.int .i64 0))))⟩]) (.cond (.t 71) (.seq (.ops [⟨(some 4), none, (.mv (.c (.t (.bool false))))⟩]) .ret) .skip)) (.seq (.seq (.ops [⟨(some 72), none, (.mv (.t 12))⟩, ⟨(some 73), none, (.mv (.t 11))⟩, ⟨(some 74), none, (.bin .neq (.t 72) (.t 73))⟩]) (.cond (.t 74) (.seq (.ops [⟨(some 4), none, (.mv (.c (.t (.bool false))))⟩]) .ret) .skip)) (.seq (.drawn [(.mk 0 false ⟨(some 75), none, (.mv (.t 0))⟩ []), (.mk 1 false ⟨(some 76), none, (.callQ (.c (.fn (.func 52) [])) [(.t 75)])⟩ []), (.mk 2 false ⟨(some 77), none, (.load (some 7) (.t 3))⟩ []), (.mk 3 false ⟨(some 78), none, (.callQ (.c (.fn (.func 47) [])) [(.t 77)])⟩ []), (.mk 4 false ⟨(some 79), none, (.callQ (.c (.fn (.func 56) [])) [(.t 76), (.t 78)])⟩ []), (.mk 5 true ⟨(some 13), none, (.new [(.t (.str [])), (.t (.str [])), (.t (.str [])), .nils, (.t (.bool false)), .nils, (.t (.int .i64 0))])⟩ [⟨(some 76), none, (.callQ (.c (.fn (.func 52) [])) [(.t 75)])⟩, ⟨(some 77), none, (.load (some 7) (.t 3))⟩, ⟨(some 78), none, (.callQ (.c (.fn (.func 47) [])) [(.t 77)])⟩, ⟨(some 79), none, (.callQ (.c (.fn (.func 56) [])) [(.t 76), (.t 78)])⟩]), (.mk 6 false ⟨none, none, (.store 7 (.t 13) (.t 79))⟩ [])]) (.seq (.seq (.ops [⟨(some 80), none, (.load (some 7) (.t 13))⟩, ⟨(some 81), none, (.load (some 7) (.t 6))⟩, ⟨(some 82), none, (.call (.c (.fn (.func 49) [])) [(.t 80), (.t 81)])⟩, ⟨(some 83), none, (.un .not (.t 82))⟩]) (.cond (.t 83) (.seq (.ops [⟨(some 4), none, (.mv (.c (.t (.bool false))))⟩]) .ret) .skip)) (.seq (.ops [⟨(some 12), none, (.mv (.c (.t (.int .i64 1))))⟩]) (.seq (.ops [⟨(some 84), none, (.load (some 7) (.t 9))⟩, ⟨(some 85), none, (.mv (.t 12))⟩, ⟨(some 86), none, (.call (.c (.fn (.func 59) [])) [(.t 84), (.t 85)])⟩, ⟨(some 12), none, (.mv (.t 86))⟩]) (.seq (.seq (.ops [⟨(some 87), none, (.mv (.t 12))⟩, ⟨(some 88), none, (.bin .lss (.t 87) (.c (.t (.int .i64 0))))⟩]) (.cond (.t 88) (.seq (.ops [⟨(some 4), none, (.mv (.c (.t (.bool false))))⟩]) .ret) .skip)) (.seq (.seq (.ops [⟨(some 89), none, (.mv (.t 12))⟩, ⟨(some 90), none, (.mv (.t 11))⟩, ⟨(some 91), none, (.bin .neq (.t 89) (.t 90))⟩]) (.cond (.t 91) (.seq (.ops [⟨(some 4), none, (.mv (.c (.t (.bool false))))⟩]) .ret) .skip)) (.seq (.ops [⟨(some 4), none, (.mv (.c (.t (.bool true))))⟩]) .ret))))))))))))))))))))))))))))))
theorem k_laws_FnExactGateFill : comp Try.prog 92 (Try.f11.body.getD .skip) = some c_laws_FnExactGateFill := by kernel_rfl

theorem lawGateFill (a0 : List GateShape) (a1 : GateObject) (h0 : T.is (.sl 2 shGateShape) (tGateShapeS a0)) (q0 : (tGateShapeS a0).size ≤ 1048576 → GateShape.OkS a0) (h1 : T.isL shGateObject a1.ts) (q1 : T.sizeL a1.ts ≤ 1048576 → a1.Ok) (σ : Store) : ACalls Try.prog 11 [.t (tGateShapeS a0), .agg a1.vs] σ fun r _ => r = .t (.bool true) := by
  refine acalls_of Try.func11 (by decide +kernel) (code := Try.f11.body.getD .skip) (n := 92) (c := c_laws_FnExactGateFill) (rs := [(.tmp 4)]) rfl rfl k_laws_FnExactGateFill (by kernel_rfl) (by simp) (fun hσ => ?_)
  try simp only [maxLen] at *
  have fin : ∀ {τ : Store}, retV σ.length (fun r _ => r = .t (.bool true)) (σ ++ τ) (some [.t (.bool true)]) := ret_same rfl hσ rfl rfl
  have fin0 : retV σ.length (fun r _ => r = .t (.bool true)) σ (some [.t (.bool true)]) := ret_same0 rfl rfl
  simp -implicitDefEqProofs only [c_laws_FnExactGateFill, GateObject.vs, S0, S1, S2, S3, S4, S5, S6, S7, S8, S9, S10, S11, S12, S13, S14, S15, S16, S17, opv, opvs, eget, env0, setD, lenStr, lenSl, isNilP, isNilS, putAt, if_true, if_false, reduceCtorEq, Nat.reduceLeDiff, Nat.reduceEqDiff, Nat.reduceSub, Nat.reduceMul, Nat.reduceAdd]
  refine call_by (by rw [List.append_nil]; exact szGateShapeS (tGateShapeS a0) 1048576 _ h0 (by omega) (by omega)) ?_
  rintro r σ' ⟨⟨m1, rfl, hm1, hs1⟩, rfl⟩
  simp -implicitDefEqProofs only [nat_neg, List.append_nil, GateObject.vs, ne_self, beq_self_eq_true, S0, S1, S2, S3, S4, S5, S6, S7, S8, S9, S10, S11, S12, S13, S14, S15, S16, S17, opv, opvs, eget, env0, setD, lenStr, lenSl, isNilP, isNilS, putAt, if_true, if_false, reduceCtorEq, Nat.reduceLeDiff, Nat.reduceEqDiff, Nat.reduceSub, Nat.reduceMul, Nat.reduceAdd]
  refine cond_split (fun h => ?_) (fun h => ?_)
  · simp -implicitDefEqProofs only [S0, S1, S2, S3, S4, S5, S6, S7, S8, S9, S10, S11, S12, S13, S14, S15, S16, S17, opv, opvs, eget, env0, setD, lenStr, lenSl, isNilP, isNilS, putAt, if_true, if_false, reduceCtorEq, Nat.reduceLeDiff, Nat.reduceEqDiff, Nat.reduceSub, Nat.reduceMul, Nat.reduceAdd]
    first | exact fin | exact fin0
  simp only [decide_eq_false_iff_not, Int.not_lt] at h
  replace hs1 := hs1 h
  simp -implicitDefEqProofs only [nat_neg, List.append_nil, GateObject.vs, ne_self, beq_self_eq_true, S0, S1, S2, S3, S4, S5, S6, S7, S8, S9, S10, S11, S12, S13, S14, S15, S16, S17, opv, opvs, eget, env0, setD, lenStr, lenSl, isNilP, isNilS, putAt, if_true, if_false, reduceCtorEq, Nat.reduceLeDiff, Nat.reduceEqDiff, Nat.reduceSub, Nat.reduceMul, Nat.reduceAdd]
  refine call_by (by rw [List.append_nil]; exact szGateObject a1.ts m1 _ h1 (by omega) (by omega)) ?_
  rintro r σ' ⟨⟨m2, rfl, hm2, hs2⟩, rfl⟩
  simp -implicitDefEqProofs only [nat_neg, List.append_nil, GateObject.vs, ne_self, beq_self_eq_true, S0, S1, S2, S3, S4, S5, S6, S7, S8, S9, S10, S11, S12, S13, S14, S15, S16, S17, opv, opvs, eget, env0, setD, lenStr, lenSl, isNilP, isNilS, putAt, if_true, if_false, reduceCtorEq, Nat.reduceLeDiff, Nat.reduceEqDiff, Nat.reduceSub, Nat.reduceMul, Nat.reduceAdd]
  refine cond_split (fun h => ?_) (fun h => ?_)
  · simp -implicitDefEqProofs only [S0, S1, S2, S3, S4, S5, S6, S7, S8, S9, S10, S11, S12, S13, S14, S15, S16, S17, opv, opvs, eget, env0, setD, lenStr, lenSl, isNilP, isNilS, putAt, if_true, if_false, reduceCtorEq, Nat.reduceLeDiff, Nat.reduceEqDiff, Nat.reduceSub, Nat.reduceMul, Nat.reduceAdd]
    first | exact fin | exact fin0
  simp only [decide_eq_false_iff_not, Int.not_lt] at h
  replace hs2 := hs2 h
  simp -implicitDefEqProofs only [nat_neg, List.append_nil, GateObject.vs, ne_self, beq_self_eq_true, S0, S1, S2, S3, S4, S5, S6, S7, S8, S9, S10, S11, S12, S13, S14, S15, S16, S17, opv, opvs, eget, env0, setD, lenStr, lenSl, isNilP, isNilS, putAt, if_true, if_false, reduceCtorEq, Nat.reduceLeDiff, Nat.reduceEqDiff, Nat.reduceSub, Nat.reduceMul, Nat.reduceAdd]
  have o0 := q0 (by omega)
  have o1 := q1 (by omega)
  obtain ⟨s1, es1⟩ : ∃ s, s = σ ++ [Go.Ab.Obj.box a1.vs] := ⟨_, rfl⟩
  have kp1 : Kp σ s1 := by rw [es1]; exact Kp.app _ _
  have ln1 : s1.length = σ.length + 1 := by rw [es1]; simp
  have e1 : s1[σ.length]? = some (.box a1.vs) := by rw [es1]; simp
  simp only [GateObject.vs] at es1 e1
  rw [← es1]
  obtain ⟨hT, hzt⟩ := res_GateFill a0 h0 (by omega) o0 a1 h1 (by omega) o1
  have Sp := fun σ => specF_GateFill a0 o0 a1 o1 σ
  have Ip := fun σ => implO_GateFill a0 o0 a1 o1 σ
  generalize (resT_GateFill a0 a1) = t at hT hzt Sp Ip
  have lt : t.length = 7 := T.isL_len hT
  have hmt : (T.mkVL markTxt 1 t).2 < 4611686018427387904 := by
    have := mkVL_ub (mt := markTxt) (ts := t) (k := 1) (cs := shGateObject) (by decide) hT
    omega
  have IpF := fun σ => acalls_frzTL (Ip σ)
  have tk := take_all (len_t lt)
  have on := ones_t t
  have lm := len_t lt
  have toF0 := fun σ => acalls_frzT (toGateShapeS (tGateShapeS a0) σ h0 (by omega))
  have toF1 : ∀ σ, ACalls Try.prog 47 [.agg a1.vs] σ fun r σ' => r = .agg a1.vs ∧ σ' = σ := fun σ => acalls_frzTL (toGateObject a1.ts σ h1 (by omega))
  try simp -implicitDefEqProofs only [nat_neg, List.append_nil, GateObject.vs, e1, tk, on, lm, ne_self, beq_self_eq_true, S0, S1, S2, S3, S4, S5, S6, S7, S8, S9, S10, S11, S12, S13, S14, S15, S16, S17, opv, opvs, eget, env0, setD, lenStr, lenSl, isNilP, isNilS, putAt, if_true, if_false, reduceCtorEq, Nat.reduceLeDiff, Nat.reduceEqDiff, Nat.reduceSub, Nat.reduceMul, Nat.reduceAdd]
  first | refine call_pure (toF0 _) ?_ | refine call_pureQ (fun _ => toF0 _) ?_
  simp -implicitDefEqProofs only [nat_neg, List.append_nil, GateObject.vs, e1, tk, on, lm, ne_self, beq_self_eq_true, S0, S1, S2, S3, S4, S5, S6, S7, S8, S9, S10, S11, S12, S13, S14, S15, S16, S17, opv, opvs, eget, env0, setD, lenStr, lenSl, isNilP, isNilS, putAt, if_true, if_false, reduceCtorEq, Nat.reduceLeDiff, Nat.reduceEqDiff, Nat.reduceSub, Nat.reduceMul, Nat.reduceAdd]
  first | refine call_pure (toF1 _) ?_ | refine call_pureQ (fun _ => toF1 _) ?_
  simp -implicitDefEqProofs only [nat_neg, List.append_nil, GateObject.vs, e1, tk, on, lm, ne_self, beq_self_eq_true, S0, S1, S2, S3, S4, S5, S6, S7, S8, S9, S10, S11, S12, S13, S14, S15, S16, S17, opv, opvs, eget, env0, setD, lenStr, lenSl, isNilP, isNilS, putAt, if_true, if_false, reduceCtorEq, Nat.reduceLeDiff, Nat.reduceEqDiff, Nat.reduceSub, Nat.reduceMul, Nat.reduceAdd]
  first | refine call_pure (Sp _) ?_ | refine call_pureQ (fun _ => Sp _) ?_
  simp -implicitDefEqProofs only [nat_neg, List.append_nil, GateObject.vs, e1, tk, on, lm, ne_self, beq_self_eq_true, S0, S1, S2, S3, S4, S5, S6, S7, S8, S9, S10, S11, S12, S13, S14, S15, S16, S17, opv, opvs, eget, env0, setD, lenStr, lenSl, isNilP, isNilS, putAt, if_true, if_false, reduceCtorEq, Nat.reduceLeDiff, Nat.reduceEqDiff, Nat.reduceSub, Nat.reduceMul, Nat.reduceAdd]
  obtain ⟨s2, es2⟩ : ∃ s, s = s1 ++ [Go.Ab.Obj.box (t.map V.t)] := ⟨_, rfl⟩
  have kp2 : Kp s1 s2 := by rw [es2]; exact Kp.app _ _
  have ln2 : s2.length = s1.length + 1 := by rw [es2]; simp
  have e2 : s2[s1.length]? = some (.box (t.map V.t)) := by rw [es2]; simp
  rw [← es2]
  replace e1 := kp2.box e1
  try simp -implicitDefEqProofs only [nat_neg, List.append_nil, GateObject.vs, e1, tk, on, lm, e2, ne_self, beq_self_eq_true, S0, S1, S2, S3, S4, S5, S6, S7, S8, S9, S10, S11, S12, S13, S14, S15, S16, S17, opv, opvs, eget, env0, setD, lenStr, lenSl, isNilP, isNilS, putAt, if_true, if_false, reduceCtorEq, Nat.reduceLeDiff, Nat.reduceEqDiff, Nat.reduceSub, Nat.reduceMul, Nat.reduceAdd]
  refine call_new (toGateShapeS (tGateShapeS a0) _ h0 (by omega)) ?_
  rintro u3 s3 j3 le3 k3 p3 w3
  replace e1 := k3.box e1
  replace e2 := k3.box e2
  have on3 := p3.one
  simp -implicitDefEqProofs only [nat_neg, List.append_nil, GateObject.vs, e1, tk, on, lm, e2, one_cells on3, on3, ne_self, beq_self_eq_true, S0, S1, S2, S3, S4, S5, S6, S7, S8, S9, S10, S11, S12, S13, S14, S15, S16, S17, opv, opvs, eget, env0, setD, lenStr, lenSl, isNilP, isNilS, putAt, if_true, if_false, reduceCtorEq, Nat.reduceLeDiff, Nat.reduceEqDiff, Nat.reduceSub, Nat.reduceMul, Nat.reduceAdd]
  refine call_newL (toGateObject a1.ts _ h1 (by omega)) ?_
  rintro u4 s4 j4 le4 k4 p4 w4
  replace e1 := k4.box e1
  replace e2 := k4.box e2
  replace p3 := k4.own p3
  have l4 : u4.length = 7 := by rw [p4.len]; first | rfl | exact lt
  have tk4 := take_all l4
  have on4 := p4.ones
  simp -implicitDefEqProofs only [nat_neg, List.append_nil, GateObject.vs, e1, tk, on, lm, e2, one_cells on3, on3, l4, tk4, on4, ne_self, beq_self_eq_true, S0, S1, S2, S3, S4, S5, S6, S7, S8, S9, S10, S11, S12, S13, S14, S15, S16, S17, opv, opvs, eget, env0, setD, lenStr, lenSl, isNilP, isNilS, putAt, if_true, if_false, reduceCtorEq, Nat.reduceLeDiff, Nat.reduceEqDiff, Nat.reduceSub, Nat.reduceMul, Nat.reduceAdd]
  obtain ⟨s5, es5⟩ : ∃ s, s = s4 ++ [Go.Ab.Obj.box u4] := ⟨_, rfl⟩
  have kp5 : Kp s4 s5 := by rw [es5]; exact Kp.app _ _
  have ln5 : s5.length = s4.length + 1 := by rw [es5]; simp
  have e5 : s5[s4.length]? = some (.box u4) := by rw [es5]; simp
  rw [← es5]
  replace e1 := kp5.box e1
  replace e2 := kp5.box e2
  replace p3 := kp5.own p3
  replace p4 := kp5.ownL p4
  try simp -implicitDefEqProofs only [nat_neg, List.append_nil, GateObject.vs, e1, tk, on, lm, e2, one_cells on3, on3, l4, tk4, on4, e5, ne_self, beq_self_eq_true, S0, S1, S2, S3, S4, S5, S6, S7, S8, S9, S10, S11, S12, S13, S14, S15, S16, S17, opv, opvs, eget, env0, setD, lenStr, lenSl, isNilP, isNilS, putAt, if_true, if_false, reduceCtorEq, Nat.reduceLeDiff, Nat.reduceEqDiff, Nat.reduceSub, Nat.reduceMul, Nat.reduceAdd]
  refine call_newL (acalls_toL Ip ⟨_, _, rfl, sees_lst p3 rfl (List.prefix_refl _), _, _, rfl, sees_agg p4 rfl (List.prefix_refl _), rfl⟩) ?_
  rintro u6 s6 j6 le6 k6 p6 w6
  replace e1 := k6.box e1
  replace e2 := k6.box e2
  replace e5 := k6.box e5
  replace p3 := k6.own p3
  replace p4 := k6.ownL p4
  have l6 : u6.length = 7 := by rw [p6.len]; first | rfl | exact lt
  have tk6 := take_all l6
  have on6 := p6.ones
  simp -implicitDefEqProofs only [nat_neg, List.append_nil, GateObject.vs, e1, tk, on, lm, e2, one_cells on3, on3, l4, tk4, on4, e5, l6, tk6, on6, ne_self, beq_self_eq_true, S0, S1, S2, S3, S4, S5, S6, S7, S8, S9, S10, S11, S12, S13, S14, S15, S16, S17, opv, opvs, eget, env0, setD, lenStr, lenSl, isNilP, isNilS, putAt, if_true, if_false, reduceCtorEq, Nat.reduceLeDiff, Nat.reduceEqDiff, Nat.reduceSub, Nat.reduceMul, Nat.reduceAdd]
  obtain ⟨s7, es7⟩ : ∃ s, s = s6 ++ [Go.Ab.Obj.box u6] := ⟨_, rfl⟩
  have kp7 : Kp s6 s7 := by rw [es7]; exact Kp.app _ _
  have ln7 : s7.length = s6.length + 1 := by rw [es7]; simp
  have e7 : s7[s6.length]? = some (.box u6) := by rw [es7]; simp
  rw [← es7]
  replace e1 := kp7.box e1
  replace e2 := kp7.box e2
  replace e5 := kp7.box e5
  replace p3 := kp7.own p3
  replace p4 := kp7.ownL p4
  replace p6 := kp7.ownL p6
  try simp -implicitDefEqProofs only [nat_neg, List.append_nil, GateObject.vs, e1, tk, on, lm, e2, one_cells on3, on3, l4, tk4, on4, e5, l6, tk6, on6, e7, ne_self, beq_self_eq_true, S0, S1, S2, S3, S4, S5, S6, S7, S8, S9, S10, S11, S12, S13, S14, S15, S16, S17, opv, opvs, eget, env0, setD, lenStr, lenSl, isNilP, isNilS, putAt, if_true, if_false, reduceCtorEq, Nat.reduceLeDiff, Nat.reduceEqDiff, Nat.reduceSub, Nat.reduceMul, Nat.reduceAdd]
  refine call_bor (fun σ => eqGateObject t σ hT (by omega)) rfl ⟨_, _, rfl, sees_agg p6 rfl (List.prefix_refl _), _, _, rfl, seesA_ts (by decide) hT rfl, rfl⟩ ?_
  simp -implicitDefEqProofs only [nat_neg, List.append_nil, GateObject.vs, e1, tk, on, lm, e2, one_cells on3, on3, l4, tk4, on4, e5, l6, tk6, on6, e7, ne_self, beq_self_eq_true, S0, S1, S2, S3, S4, S5, S6, S7, S8, S9, S10, S11, S12, S13, S14, S15, S16, S17, opv, opvs, eget, env0, setD, lenStr, lenSl, isNilP, isNilS, putAt, if_true, if_false, reduceCtorEq, Nat.reduceLeDiff, Nat.reduceEqDiff, Nat.reduceSub, Nat.reduceMul, Nat.reduceAdd]
  first | refine call_pure (toF0 _) ?_ | refine call_pureQ (fun _ => toF0 _) ?_
  simp -implicitDefEqProofs only [nat_neg, List.append_nil, GateObject.vs, e1, tk, on, lm, e2, one_cells on3, on3, l4, tk4, on4, e5, l6, tk6, on6, e7, ne_self, beq_self_eq_true, S0, S1, S2, S3, S4, S5, S6, S7, S8, S9, S10, S11, S12, S13, S14, S15, S16, S17, opv, opvs, eget, env0, setD, lenStr, lenSl, isNilP, isNilS, putAt, if_true, if_false, reduceCtorEq, Nat.reduceLeDiff, Nat.reduceEqDiff, Nat.reduceSub, Nat.reduceMul, Nat.reduceAdd]
  refine call_bor (fun σ => eqGateShapeS (tGateShapeS a0) σ h0 (by omega)) rfl ⟨_, _, rfl, sees_lst p3 rfl (List.prefix_refl _), _, _, rfl, seesA_t (by decide) h0, rfl⟩ ?_
  simp -implicitDefEqProofs only [nat_neg, List.append_nil, GateObject.vs, e1, tk, on, lm, e2, one_cells on3, on3, l4, tk4, on4, e5, l6, tk6, on6, e7, ne_self, beq_self_eq_true, S0, S1, S2, S3, S4, S5, S6, S7, S8, S9, S10, S11, S12, S13, S14, S15, S16, S17, opv, opvs, eget, env0, setD, lenStr, lenSl, isNilP, isNilS, putAt, if_true, if_false, reduceCtorEq, Nat.reduceLeDiff, Nat.reduceEqDiff, Nat.reduceSub, Nat.reduceMul, Nat.reduceAdd]
  first | refine call_pure (toF1 _) ?_ | refine call_pureQ (fun _ => toF1 _) ?_
  simp -implicitDefEqProofs only [nat_neg, List.append_nil, GateObject.vs, e1, tk, on, lm, e2, one_cells on3, on3, l4, tk4, on4, e5, l6, tk6, on6, e7, ne_self, beq_self_eq_true, S0, S1, S2, S3, S4, S5, S6, S7, S8, S9, S10, S11, S12, S13, S14, S15, S16, S17, opv, opvs, eget, env0, setD, lenStr, lenSl, isNilP, isNilS, putAt, if_true, if_false, reduceCtorEq, Nat.reduceLeDiff, Nat.reduceEqDiff, Nat.reduceSub, Nat.reduceMul, Nat.reduceAdd]
  refine call_bor (fun σ => eqGateObject a1.ts σ h1 (by omega)) rfl ⟨_, _, rfl, sees_agg p4 rfl (List.prefix_refl _), _, _, rfl, seesA_ts (v := .agg a1.vs) (by decide) h1 rfl, rfl⟩ ?_
  simp -implicitDefEqProofs only [nat_neg, List.append_nil, GateObject.vs, e1, tk, on, lm, e2, one_cells on3, on3, l4, tk4, on4, e5, l6, tk6, on6, e7, ne_self, beq_self_eq_true, S0, S1, S2, S3, S4, S5, S6, S7, S8, S9, S10, S11, S12, S13, S14, S15, S16, S17, opv, opvs, eget, env0, setD, lenStr, lenSl, isNilP, isNilS, putAt, if_true, if_false, reduceCtorEq, Nat.reduceLeDiff, Nat.reduceEqDiff, Nat.reduceSub, Nat.reduceMul, Nat.reduceAdd]
  have ub1 : (T.mk markTxt 1 (tGateShapeS a0)).2 ≤ 1 * 300000000 := by
    have := mk_ub (mt := markTxt) (t := (tGateShapeS a0)) (k := 1) (c := (.sl 2 shGateShape)) (by decide) h0
    omega
  refine call_by (by rw [List.append_nil]; exact markGateShapeS (tGateShapeS a0) u3 j3 1 _ h0 (by omega) p3 w3.1 (Nat.le_refl _) (by omega)) ?_
  rintro r s8 ⟨rfl, q8, le8, kb8⟩
  have kb8' : Kb j3 s7 s8 := kb8
  replace e1 := kb8'.box e1 (wi_out w3 (by omega))
  replace e2 := kb8'.box e2 (wi_out w3 (by omega))
  replace e5 := kb8'.box e5 (wi_out w3 (by omega))
  replace e7 := kb8'.box e7 (wi_out w3 (by omega))
  replace p4 := kb8'.ownL p4 (wi_apart w4 w3 (by omega))
  replace p6 := kb8'.ownL p6 (wi_apart w6 w3 (by omega))
  simp -implicitDefEqProofs only [nat_neg, List.append_nil, GateObject.vs, e1, tk, on, lm, e2, one_cells on3, on3, l4, tk4, on4, e5, l6, tk6, on6, e7, ne_self, beq_self_eq_true, S0, S1, S2, S3, S4, S5, S6, S7, S8, S9, S10, S11, S12, S13, S14, S15, S16, S17, opv, opvs, eget, env0, setD, lenStr, lenSl, isNilP, isNilS, putAt, if_true, if_false, reduceCtorEq, Nat.reduceLeDiff, Nat.reduceEqDiff, Nat.reduceSub, Nat.reduceMul, Nat.reduceAdd]
  have ub2 : (T.mkVL markTxt ((T.mk markTxt 1 (tGateShapeS a0)).2) a1.ts).2 ≤ 2 * 300000000 := by
    have := mkVL_ub (mt := markTxt) (ts := a1.ts) (k := ((T.mk markTxt 1 (tGateShapeS a0)).2)) (cs := shGateObject) (by decide) h1
    have h2 : a1.ts.length = 7 := rfl
    omega
  refine call_by (by rw [List.append_nil]; exact markGateObject a1.ts u4 j4 ((T.mk markTxt 1 (tGateShapeS a0)).2) _ h1 (by omega) p4 w4.1 (mk_pos (Nat.le_refl _)) (by omega)) ?_
  rintro r s9 ⟨rfl, q9, le9, kb9⟩
  have kb9' : Kb j4 s8 s9 := kb9
  replace e1 := kb9'.box e1 (wi_out w4 (by omega))
  replace e2 := kb9'.box e2 (wi_out w4 (by omega))
  replace e5 := kb9'.box e5 (wi_out w4 (by omega))
  replace e7 := kb9'.box e7 (wi_out w4 (by omega))
  replace p6 := kb9'.ownL p6 (wi_apart w6 w4 (by omega))
  simp -implicitDefEqProofs only [nat_neg, List.append_nil, GateObject.vs, e1, tk, on, lm, e2, one_cells on3, on3, l4, tk4, on4, e5, l6, tk6, on6, e7, ne_self, beq_self_eq_true, S0, S1, S2, S3, S4, S5, S6, S7, S8, S9, S10, S11, S12, S13, S14, S15, S16, S17, opv, opvs, eget, env0, setD, lenStr, lenSl, isNilP, isNilS, putAt, if_true, if_false, reduceCtorEq, Nat.reduceLeDiff, Nat.reduceEqDiff, Nat.reduceSub, Nat.reduceMul, Nat.reduceAdd]
  refine call_bor (fun σ => eqGateObject t σ hT (by omega)) rfl ⟨_, _, rfl, sees_agg p6 rfl (List.prefix_refl _), _, _, rfl, seesA_ts (by decide) hT rfl, rfl⟩ ?_
  simp -implicitDefEqProofs only [nat_neg, List.append_nil, GateObject.vs, e1, tk, on, lm, e2, one_cells on3, on3, l4, tk4, on4, e5, l6, tk6, on6, e7, ne_self, beq_self_eq_true, S0, S1, S2, S3, S4, S5, S6, S7, S8, S9, S10, S11, S12, S13, S14, S15, S16, S17, opv, opvs, eget, env0, setD, lenStr, lenSl, isNilP, isNilS, putAt, if_true, if_false, reduceCtorEq, Nat.reduceLeDiff, Nat.reduceEqDiff, Nat.reduceSub, Nat.reduceMul, Nat.reduceAdd]
  refine call_by (by rw [List.append_nil]; exact markGateObject t u6 j6 1 _ hT (by omega) p6 w6.1 (Nat.le_refl _) hmt) ?_
  rintro r s10 ⟨rfl, q10, le10, kb10⟩
  have kb10' : Kb j6 s9 s10 := kb10
  replace e1 := kb10'.box e1 (wi_out w6 (by omega))
  replace e2 := kb10'.box e2 (wi_out w6 (by omega))
  replace e5 := kb10'.box e5 (wi_out w6 (by omega))
  replace e7 := kb10'.box e7 (wi_out w6 (by omega))
  have Hp := fun σ => heldGateObject t 1 σ hT (by omega) (Nat.le_refl _) hmt
  simp -implicitDefEqProofs only [nat_neg, List.append_nil, GateObject.vs, e1, tk, on, lm, e2, one_cells on3, on3, l4, tk4, on4, e5, l6, tk6, on6, e7, ne_self, beq_self_eq_true, S0, S1, S2, S3, S4, S5, S6, S7, S8, S9, S10, S11, S12, S13, S14, S15, S16, S17, opv, opvs, eget, env0, setD, lenStr, lenSl, isNilP, isNilS, putAt, if_true, if_false, reduceCtorEq, Nat.reduceLeDiff, Nat.reduceEqDiff, Nat.reduceSub, Nat.reduceMul, Nat.reduceAdd]
  refine call_bor (y := .t (.int .i64 ((T.mkVL markTxt 1 t).2 : Nat))) (fun σ => Hp σ) rfl ⟨_, _, rfl, sees_agg q10 rfl (List.prefix_refl _), _, _, rfl, sees_one rfl, rfl⟩ ?_
  simp -implicitDefEqProofs only [nat_neg, List.append_nil, GateObject.vs, e1, tk, on, lm, e2, one_cells on3, on3, l4, tk4, on4, e5, l6, tk6, on6, e7, ne_self, beq_self_eq_true, S0, S1, S2, S3, S4, S5, S6, S7, S8, S9, S10, S11, S12, S13, S14, S15, S16, S17, opv, opvs, eget, env0, setD, lenStr, lenSl, isNilP, isNilS, putAt, if_true, if_false, reduceCtorEq, Nat.reduceLeDiff, Nat.reduceEqDiff, Nat.reduceSub, Nat.reduceMul, Nat.reduceAdd]
  first | refine call_pure (toF0 _) ?_ | refine call_pureQ (fun _ => toF0 _) ?_
  simp -implicitDefEqProofs only [nat_neg, List.append_nil, GateObject.vs, e1, tk, on, lm, e2, one_cells on3, on3, l4, tk4, on4, e5, l6, tk6, on6, e7, ne_self, beq_self_eq_true, S0, S1, S2, S3, S4, S5, S6, S7, S8, S9, S10, S11, S12, S13, S14, S15, S16, S17, opv, opvs, eget, env0, setD, lenStr, lenSl, isNilP, isNilS, putAt, if_true, if_false, reduceCtorEq, Nat.reduceLeDiff, Nat.reduceEqDiff, Nat.reduceSub, Nat.reduceMul, Nat.reduceAdd]
  first | refine call_pure (toF1 _) ?_ | refine call_pureQ (fun _ => toF1 _) ?_
  simp -implicitDefEqProofs only [nat_neg, List.append_nil, GateObject.vs, e1, tk, on, lm, e2, one_cells on3, on3, l4, tk4, on4, e5, l6, tk6, on6, e7, ne_self, beq_self_eq_true, S0, S1, S2, S3, S4, S5, S6, S7, S8, S9, S10, S11, S12, S13, S14, S15, S16, S17, opv, opvs, eget, env0, setD, lenStr, lenSl, isNilP, isNilS, putAt, if_true, if_false, reduceCtorEq, Nat.reduceLeDiff, Nat.reduceEqDiff, Nat.reduceSub, Nat.reduceMul, Nat.reduceAdd]
  first | refine call_pure (IpF _) ?_ | refine call_pureQ (fun _ => IpF _) ?_
  simp -implicitDefEqProofs only [nat_neg, List.append_nil, GateObject.vs, e1, tk, on, lm, e2, one_cells on3, on3, l4, tk4, on4, e5, l6, tk6, on6, e7, ne_self, beq_self_eq_true, S0, S1, S2, S3, S4, S5, S6, S7, S8, S9, S10, S11, S12, S13, S14, S15, S16, S17, opv, opvs, eget, env0, setD, lenStr, lenSl, isNilP, isNilS, putAt, if_true, if_false, reduceCtorEq, Nat.reduceLeDiff, Nat.reduceEqDiff, Nat.reduceSub, Nat.reduceMul, Nat.reduceAdd]
  obtain ⟨s11, es11⟩ : ∃ s, s = s10 ++ [Go.Ab.Obj.box (t.map V.t)] := ⟨_, rfl⟩
  have kp11 : Kp s10 s11 := by rw [es11]; exact Kp.app _ _
  have ln11 : s11.length = s10.length + 1 := by rw [es11]; simp
  have e11 : s11[s10.length]? = some (.box (t.map V.t)) := by rw [es11]; simp
  rw [← es11]
  replace e1 := kp11.box e1
  replace e2 := kp11.box e2
  replace e5 := kp11.box e5
  replace e7 := kp11.box e7
  replace q10 := kp11.ownL q10
  try simp -implicitDefEqProofs only [nat_neg, List.append_nil, GateObject.vs, e1, tk, on, lm, e2, one_cells on3, on3, l4, tk4, on4, e5, l6, tk6, on6, e7, e11, ne_self, beq_self_eq_true, S0, S1, S2, S3, S4, S5, S6, S7, S8, S9, S10, S11, S12, S13, S14, S15, S16, S17, opv, opvs, eget, env0, setD, lenStr, lenSl, isNilP, isNilS, putAt, if_true, if_false, reduceCtorEq, Nat.reduceLeDiff, Nat.reduceEqDiff, Nat.reduceSub, Nat.reduceMul, Nat.reduceAdd]
  refine call_pure (eqGateObject t _ hT (by omega)) ?_
  simp -implicitDefEqProofs only [nat_neg, List.append_nil, GateObject.vs, e1, tk, on, lm, e2, one_cells on3, on3, l4, tk4, on4, e5, l6, tk6, on6, e7, e11, ne_self, beq_self_eq_true, S0, S1, S2, S3, S4, S5, S6, S7, S8, S9, S10, S11, S12, S13, S14, S15, S16, S17, opv, opvs, eget, env0, setD, lenStr, lenSl, isNilP, isNilS, putAt, if_true, if_false, reduceCtorEq, Nat.reduceLeDiff, Nat.reduceEqDiff, Nat.reduceSub, Nat.reduceMul, Nat.reduceAdd]
  refine call_bor (y := .t (.int .i64 ((T.mkVL markTxt 1 t).2 : Nat))) (fun σ => Hp σ) rfl ⟨_, _, rfl, sees_agg q10 rfl (List.prefix_refl _), _, _, rfl, sees_one rfl, rfl⟩ ?_
  simp -implicitDefEqProofs only [nat_neg, List.append_nil, GateObject.vs, e1, tk, on, lm, e2, one_cells on3, on3, l4, tk4, on4, e5, l6, tk6, on6, e7, e11, ne_self, beq_self_eq_true, S0, S1, S2, S3, S4, S5, S6, S7, S8, S9, S10, S11, S12, S13, S14, S15, S16, S17, opv, opvs, eget, env0, setD, lenStr, lenSl, isNilP, isNilS, putAt, if_true, if_false, reduceCtorEq, Nat.reduceLeDiff, Nat.reduceEqDiff, Nat.reduceSub, Nat.reduceMul, Nat.reduceAdd]
  refine fin_keep ?_ rfl
  omega
end Go.Proofs.Ytgdmgoidfglobaa.LGateFill
