/- FnExactRecMajor: what the law's code does: it returns true. Conditions: none. -/
import Derived.Test.YtleilaipdhmgeaaRecMajor
set_option linter.unusedSimpArgs false
set_option linter.unusedVariables false
set_option linter.defProp false
open Go Go.Ab
set_option maxHeartbeats 4000000
namespace Go.Proofs.Ytleilaipdhmgeaa.LRecMajor
open Go.Proofs.Ytleilaipdhmgeaa.W
theorem list3y {l : List V} (h : l.length = 3) : ∃ u0 u1 u2, l = [u0, u1, u2] := by
  match l, h with
  | [u0, u1, u2], _ => exact ⟨u0, u1, u2, rfl⟩
def c_laws_FnExactRecMajor : C := (.seq (.ops [⟨(some 2), none, (.box (.t 0))⟩, ⟨(some 4), none, (.mv (.c (.t (.bool false))))⟩]) (.seq (.ops [⟨(some 5), none, (.mv (.c (.t (.int .i64 1048576))))⟩]) (.seq (.ops [⟨(some 11), none, (.load (some 3) (.t 2))⟩, ⟨(some 12), none, (.mv (.t 5))⟩, ⟨(some 13), none, (.call (.c (.fn (.func 57) [])) [(.t 11), (.t 12)])⟩, ⟨(some 5), none, (.mv (.t 13))⟩]) (.seq (.seq (.ops [⟨(some 14), none, (.mv (.t 5))⟩, ⟨(some 15), none, (.bin .lss (.t 14) (.c (.t (.int .i64 0))))⟩]) (.cond (.t 15) (.seq (.ops [⟨(some 4), none, (.mv (.c (.t (.bool true))))⟩]) .ret) .skip)) (.seq (.ops [⟨(some 17), none, (.load (some 3) (.t 2))⟩, ⟨(some 18), none, (.call (.c (.fn (.func 59) [])) [(.t 17)])⟩, ⟨(some 19), none, (.mv (.t 1))⟩, ⟨(some 20), none, (.call (.c (.fn (.func 61) [])) [(.t 18), (.t 19)])⟩, ⟨(some 16), none, (.mv (.t 20))⟩, ⟨(some 21), none, (.extract (.t 16) 0)⟩, ⟨(some 22), none, (.extract (.t 16) 1)⟩, ⟨(some 6), none, (.mv (.t 21))⟩, ⟨(some 7), none, (.mv (.t 22))⟩]) (.seq (.ops [⟨(some 23), none, (.load (some 3) (.t 2))⟩, ⟨(some 24), none, (.call (.c (.fn (.func 59) [])) [(.t 23)])⟩, ⟨(some 8), none, (.new [.nils, .nils, .nils])⟩, ⟨none, none, (.store 3 (.t 8) (.t 24))⟩]) (.seq (.ops [⟨(some 26), none, (.load (some 3) (.t 8))⟩, ⟨(some 27), none, (.mv (.t 1))⟩, ⟨(some 28), none, (.call (.c (.fn (.func 62) [])) [(.t 26), (.t 27)])⟩, ⟨(some 25), none, (.mv (.t 28))⟩, ⟨(some 29), none, (.extract (.t 25) 0)⟩, ⟨(some 30), none, (.extract (.t 25) 1)⟩, ⟨(some 9), none, (.mv (.t 29))⟩, ⟨(some 10), none, (.mv (.t 30))⟩]) (.seq (.seq (.ops [⟨(some 31), none, (.mv (.t 9))⟩, ⟨(some 32), none, (.mv (.t 6))⟩, ⟨(some 33), none, (.bin .neq (.t 31) (.t 32))⟩, ⟨(some 34), none, (.mv (.t 33))⟩, ⟨(some 35), (some ⟨34, false⟩), (.mv (.t 10))⟩, ⟨(some 36), (some ⟨34, false⟩), (.mv (.t 7))⟩, ⟨(some 37), (some ⟨34, false⟩), (.eqB true (.t 35) (.t 36))⟩, ⟨(some 38), none, (.pick (.t 34) (.c (.t (.bool true))) (.t 37))⟩]) (.cond (.t 38) (.seq (.ops [⟨(some 4), none, (.mv (.c (.t (.bool false))))⟩]) .ret) .skip)) (.seq (.seq (.drawn [(.mk 0 false ⟨(some 39), none, (.load (some 3) (.t 8))⟩), (.mk 1 false ⟨(some 40), none, (.load (some 3) (.t 2))⟩), (.mk 2 true ⟨(some 41), none, (.call (.c (.fn (.func 59) [])) [(.t 40)])⟩), (.mk 3 false ⟨(some 42), none, (.call (.c (.fn (.func 49) [])) [(.t 39), (.t 41)])⟩), (.mk 4 false ⟨(some 43), none, (.un .not (.t 42))⟩)]) (.cond (.t 43) (.seq (.ops [⟨(some 4), none, (.mv (.c (.t (.bool false))))⟩]) .ret) .skip)) (.seq (.ops [⟨(some 4), none, (.mv (.c (.t (.bool true))))⟩]) .ret))))))))))
theorem k_laws_FnExactRecMajor : comp Try.prog 44 (Try.f12.body.getD .skip) = some c_laws_FnExactRecMajor := by kernel_rfl

theorem lawRecMajor (a0 : RecWorld) (a1 : Int) (h0 : T.isL shRecWorld a0.ts) (q0 : T.sizeL a0.ts ≤ 1048576 → a0.Ok) (h1 : i64r a1) (σ : Store) : ACalls Try.prog 12 [.agg a0.vs, .t (.int .i64 a1)] σ fun r _ => r = .t (.bool true) := by
  refine acalls_of Try.func12 (by decide +kernel) (code := Try.f12.body.getD .skip) (n := 44) (c := c_laws_FnExactRecMajor) (rs := [(.tmp 4)]) rfl rfl k_laws_FnExactRecMajor (by kernel_rfl) (by simp) (fun hσ => ?_)
  try simp only [maxLen] at *
  have fin : ∀ {τ : Store}, retV σ.length (fun r _ => r = .t (.bool true)) (σ ++ τ) (some [.t (.bool true)]) := ret_same rfl hσ rfl rfl
  have fin0 : retV σ.length (fun r _ => r = .t (.bool true)) σ (some [.t (.bool true)]) := ret_same0 rfl rfl
  simp -implicitDefEqProofs only [c_laws_FnExactRecMajor, RecWorld.vs, List.length_map, S0, S1, S2, S3, S4, S5, S6, S7, S8, S9, S10, S11, S12, S13, S14, S15, opv, opvs, eget, env0, setD, lenStr, lenSl, isNilP, isNilS, putAt, if_true, if_false, reduceCtorEq, Nat.reduceLeDiff, Nat.reduceEqDiff, Nat.reduceSub, Nat.reduceMul, Nat.reduceAdd]
  refine call_by (by rw [List.append_nil]; exact szRecWorld a0.ts 1048576 _ h0 (by omega) (by omega)) ?_
  rintro r σ' ⟨⟨m1, rfl, hm1, hs1⟩, rfl⟩
  simp -implicitDefEqProofs only [majV, ne_self, beq_self_eq_true, S0, S1, S2, S3, S4, S5, S6, S7, S8, S9, S10, S11, S12, S13, S14, S15, opv, opvs, eget, env0, setD, lenStr, lenSl, isNilP, isNilS, putAt, if_true, if_false, reduceCtorEq, Nat.reduceLeDiff, Nat.reduceEqDiff, Nat.reduceSub, Nat.reduceMul, Nat.reduceAdd]
  refine cond_split (fun h => ?_) (fun h => ?_)
  · simp -implicitDefEqProofs only [S0, S1, S2, S3, S4, S5, S6, S7, S8, S9, S10, S11, S12, S13, S14, S15, opv, opvs, eget, env0, setD, lenStr, lenSl, isNilP, isNilS, putAt, if_true, if_false, reduceCtorEq, Nat.reduceLeDiff, Nat.reduceEqDiff, Nat.reduceSub, Nat.reduceMul, Nat.reduceAdd]
    first | exact fin | exact fin0
  simp only [decide_eq_false_iff_not, Int.not_lt] at h
  replace hs1 := hs1 h
  simp -implicitDefEqProofs only [majV, ne_self, beq_self_eq_true, S0, S1, S2, S3, S4, S5, S6, S7, S8, S9, S10, S11, S12, S13, S14, S15, opv, opvs, eget, env0, setD, lenStr, lenSl, isNilP, isNilS, putAt, if_true, if_false, reduceCtorEq, Nat.reduceLeDiff, Nat.reduceEqDiff, Nat.reduceSub, Nat.reduceMul, Nat.reduceAdd]
  have o0 := q0 (by omega)
  refine call_by (by rw [List.append_nil]; exact toRecWorld a0.ts _ h0 (by omega)) ?_
  rintro r σ' ⟨u1, τ1, j1, rfl, rfl, p1, w1⟩
  clear w1
  simp -implicitDefEqProofs only [majV, ne_self, beq_self_eq_true, S0, S1, S2, S3, S4, S5, S6, S7, S8, S9, S10, S11, S12, S13, S14, S15, opv, opvs, eget, env0, setD, lenStr, lenSl, isNilP, isNilS, putAt, if_true, if_false, reduceCtorEq, Nat.reduceLeDiff, Nat.reduceEqDiff, Nat.reduceSub, Nat.reduceMul, Nat.reduceAdd]
  refine call_bor (fun σ => spec_RecMajor a0 o0 a1 h1 σ) rfl ⟨_, _, rfl, sees_agg p1 rfl (by simp), _, _, rfl, sees_one rfl, rfl⟩ ?_
  simp -implicitDefEqProofs only [majV, ne_self, beq_self_eq_true, S0, S1, S2, S3, S4, S5, S6, S7, S8, S9, S10, S11, S12, S13, S14, S15, opv, opvs, eget, env0, setD, lenStr, lenSl, isNilP, isNilS, putAt, if_true, if_false, reduceCtorEq, Nat.reduceLeDiff, Nat.reduceEqDiff, Nat.reduceSub, Nat.reduceMul, Nat.reduceAdd]
  refine call_by (by rw [List.append_nil]; exact toRecWorld a0.ts _ h0 (by omega)) ?_
  rintro r σ' ⟨u2, τ2, j2, rfl, rfl, p2, w2⟩
  clear w2
  obtain ⟨v2x0, v2x1, v2x2, rfl⟩ : ∃ v2x0 v2x1 v2x2, u2 = [v2x0, v2x1, v2x2] := list3y p2.len
  have e2 := p2.ones
  simp only [List.all_cons, List.all_nil, Bool.and_eq_true, and_true] at e2
  obtain ⟨e2x0, e2x1, e2x2⟩ := e2
  simp -implicitDefEqProofs only [majV, e2x0, e2x1, e2x2, ne_self, beq_self_eq_true, S0, S1, S2, S3, S4, S5, S6, S7, S8, S9, S10, S11, S12, S13, S14, S15, opv, opvs, eget, env0, setD, lenStr, lenSl, isNilP, isNilS, putAt, if_true, if_false, reduceCtorEq, Nat.reduceLeDiff, Nat.reduceEqDiff, Nat.reduceSub, Nat.reduceMul, Nat.reduceAdd]
  refine call_bor (fun σ => impl_RecMajor a0 o0 a1 h1 σ) rfl ⟨_, _, rfl, sees_agg p2 rfl (by simp), _, _, rfl, sees_one rfl, rfl⟩ ?_
  simp -implicitDefEqProofs only [majV, e2x0, e2x1, e2x2, ne_self, beq_self_eq_true, S0, S1, S2, S3, S4, S5, S6, S7, S8, S9, S10, S11, S12, S13, S14, S15, opv, opvs, eget, env0, setD, lenStr, lenSl, isNilP, isNilS, putAt, if_true, if_false, reduceCtorEq, Nat.reduceLeDiff, Nat.reduceEqDiff, Nat.reduceSub, Nat.reduceMul, Nat.reduceAdd]
  refine call_by (by rw [List.append_nil]; exact toRecWorld a0.ts _ h0 (by omega)) ?_
  rintro r σ' ⟨u3, τ3, j3, rfl, rfl, p3, w3⟩
  clear w3
  simp -implicitDefEqProofs only [majV, e2x0, e2x1, e2x2, ne_self, beq_self_eq_true, S0, S1, S2, S3, S4, S5, S6, S7, S8, S9, S10, S11, S12, S13, S14, S15, opv, opvs, eget, env0, setD, lenStr, lenSl, isNilP, isNilS, putAt, if_true, if_false, reduceCtorEq, Nat.reduceLeDiff, Nat.reduceEqDiff, Nat.reduceSub, Nat.reduceMul, Nat.reduceAdd]
  refine call_bor (fun σ => eqRecWorld a0.ts σ h0 (by omega)) rfl ⟨_, _, rfl, sees_agg p2 rfl (by simp), _, _, rfl, sees_agg p3 rfl (by simp), rfl⟩ ?_
  simp -implicitDefEqProofs only [majV, e2x0, e2x1, e2x2, ne_self, beq_self_eq_true, S0, S1, S2, S3, S4, S5, S6, S7, S8, S9, S10, S11, S12, S13, S14, S15, opv, opvs, eget, env0, setD, lenStr, lenSl, isNilP, isNilS, putAt, if_true, if_false, reduceCtorEq, Nat.reduceLeDiff, Nat.reduceEqDiff, Nat.reduceSub, Nat.reduceMul, Nat.reduceAdd]
  first | exact fin | exact fin0
end Go.Proofs.Ytleilaipdhmgeaa.LRecMajor
