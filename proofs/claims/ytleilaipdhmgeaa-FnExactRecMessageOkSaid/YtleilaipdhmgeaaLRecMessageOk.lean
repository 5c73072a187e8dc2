/- FnExactRecMessageOk: what the law's code does: it returns true. Conditions: none. -/
import Derived.Test.YtleilaipdhmgeaaRecOk
set_option linter.unusedSimpArgs false
set_option linter.unusedVariables false
set_option linter.defProp false
open Go Go.Ab
set_option maxHeartbeats 4000000
namespace Go.Proofs.Ytleilaipdhmgeaa.LRecMessageOk
open Go.Proofs.Ytleilaipdhmgeaa.W
theorem list8y {l : List V} (h : l.length = 8) : ∃ u0 u1 u2 u3 u4 u5 u6 u7, l = [u0, u1, u2, u3, u4, u5, u6, u7] := by
  match l, h with
  | [u0, u1, u2, u3, u4, u5, u6, u7], _ => exact ⟨u0, u1, u2, u3, u4, u5, u6, u7, rfl⟩
def c_laws_FnExactRecMessageOk : C := (.seq (.ops [⟨(some 2), none, (.box (.t 0))⟩, ⟨(some 4), none, (.mv (.c (.t (.bool false))))⟩]) (.seq (.ops [⟨(some 5), none, (.mv (.c (.t (.int .i64 1048576))))⟩]) (.seq (.ops [⟨(some 9), none, (.load (some 8) (.t 2))⟩, ⟨(some 10), none, (.mv (.t 5))⟩, ⟨(some 11), none, (.call (.c (.fn (.func 33) [])) [(.t 9), (.t 10)])⟩, ⟨(some 5), none, (.mv (.t 11))⟩]) (.seq (.seq (.ops [⟨(some 12), none, (.mv (.t 5))⟩, ⟨(some 13), none, (.bin .lss (.t 12) (.c (.t (.int .i64 0))))⟩]) (.cond (.t 13) (.seq (.ops [⟨(some 4), none, (.mv (.c (.t (.bool true))))⟩]) .ret) .skip)) (.seq (.ops [⟨(some 14), none, (.load (some 8) (.t 2))⟩, ⟨(some 15), none, (.call (.c (.fn (.func 35) [])) [(.t 14)])⟩, ⟨(some 16), none, (.mv (.t 1))⟩, ⟨(some 17), none, (.call (.c (.fn (.func 34) [])) [(.t 15), (.t 16)])⟩, ⟨(some 6), none, (.mv (.t 17))⟩]) (.seq (.ops [⟨(some 18), none, (.load (some 8) (.t 2))⟩, ⟨(some 19), none, (.call (.c (.fn (.func 35) [])) [(.t 18)])⟩, ⟨(some 7), none, (.new [(.t (.int .i64 0)), (.t (.int .i64 0)), (.t (.int .i64 0)), (.t (.int .i64 0)), (.t (.int .i64 0)), (.t (.int .i64 0)), (.t (.str [])), .nils])⟩, ⟨none, none, (.store 8 (.t 7) (.t 19))⟩]) (.seq (.ops [⟨(some 20), none, (.load (some 8) (.t 7))⟩, ⟨(some 21), none, (.mv (.t 1))⟩, ⟨(some 22), none, (.call (.c (.fn (.func 36) [])) [(.t 20), (.t 21)])⟩, ⟨(some 8), none, (.mv (.t 22))⟩]) (.seq (.seq (.ops [⟨(some 23), none, (.mv (.t 8))⟩, ⟨(some 24), none, (.mv (.t 6))⟩, ⟨(some 25), none, (.eqB true (.t 23) (.t 24))⟩]) (.cond (.t 25) (.seq (.ops [⟨(some 4), none, (.mv (.c (.t (.bool false))))⟩]) .ret) .skip)) (.seq (.seq (.drawn [(.mk 0 false ⟨(some 26), none, (.load (some 8) (.t 7))⟩), (.mk 1 false ⟨(some 27), none, (.load (some 8) (.t 2))⟩), (.mk 2 true ⟨(some 28), none, (.call (.c (.fn (.func 35) [])) [(.t 27)])⟩), (.mk 3 false ⟨(some 29), none, (.call (.c (.fn (.func 37) [])) [(.t 26), (.t 28)])⟩), (.mk 4 false ⟨(some 30), none, (.un .not (.t 29))⟩)]) (.cond (.t 30) (.seq (.ops [⟨(some 4), none, (.mv (.c (.t (.bool false))))⟩]) .ret) .skip)) (.seq (.ops [⟨(some 4), none, (.mv (.c (.t (.bool true))))⟩]) .ret))))))))))
theorem k_laws_FnExactRecMessageOk : comp Try.prog 31 (Try.f6.body.getD .skip) = some c_laws_FnExactRecMessageOk := by kernel_rfl

theorem lawRecMessageOk (a0 : RecMessage) (a1 : Int) (h0 : T.isL shRecMessage a0.ts) (q0 : T.sizeL a0.ts ≤ 1048576 → a0.Ok) (h1 : i64r a1) (σ : Store) : ACalls Try.prog 6 [.agg a0.vs, .t (.int .i64 a1)] σ fun r _ => r = .t (.bool true) := by
  refine acalls_of Try.func6 (by decide +kernel) (code := Try.f6.body.getD .skip) (n := 31) (c := c_laws_FnExactRecMessageOk) (rs := [(.tmp 4)]) rfl rfl k_laws_FnExactRecMessageOk (by kernel_rfl) (by simp) (fun hσ => ?_)
  try simp only [maxLen] at *
  have fin : ∀ {τ : Store}, retV σ.length (fun r _ => r = .t (.bool true)) (σ ++ τ) (some [.t (.bool true)]) := ret_same rfl hσ rfl rfl
  have fin0 : retV σ.length (fun r _ => r = .t (.bool true)) σ (some [.t (.bool true)]) := ret_same0 rfl rfl
  simp -implicitDefEqProofs only [c_laws_FnExactRecMessageOk, RecMessage.vs, List.length_map, S0, S1, S2, S3, S4, S5, S6, S7, S8, S9, S10, S11, S12, opv, opvs, eget, env0, setD, lenStr, lenSl, isNilP, isNilS, putAt, if_true, if_false, reduceCtorEq, Nat.reduceLeDiff, Nat.reduceEqDiff, Nat.reduceSub, Nat.reduceMul, Nat.reduceAdd]
  refine call_by (by rw [List.append_nil]; exact szRecMessage a0.ts 1048576 _ h0 (by omega) (by omega)) ?_
  rintro r σ' ⟨⟨m1, rfl, hm1, hs1⟩, rfl⟩
  simp -implicitDefEqProofs only [ne_self, beq_self_eq_true, S0, S1, S2, S3, S4, S5, S6, S7, S8, S9, S10, S11, S12, opv, opvs, eget, env0, setD, lenStr, lenSl, isNilP, isNilS, putAt, if_true, if_false, reduceCtorEq, Nat.reduceLeDiff, Nat.reduceEqDiff, Nat.reduceSub, Nat.reduceMul, Nat.reduceAdd]
  refine cond_split (fun h => ?_) (fun h => ?_)
  · simp -implicitDefEqProofs only [S0, S1, S2, S3, S4, S5, S6, S7, S8, S9, S10, S11, S12, opv, opvs, eget, env0, setD, lenStr, lenSl, isNilP, isNilS, putAt, if_true, if_false, reduceCtorEq, Nat.reduceLeDiff, Nat.reduceEqDiff, Nat.reduceSub, Nat.reduceMul, Nat.reduceAdd]
    first | exact fin | exact fin0
  simp only [decide_eq_false_iff_not, Int.not_lt] at h
  replace hs1 := hs1 h
  simp -implicitDefEqProofs only [ne_self, beq_self_eq_true, S0, S1, S2, S3, S4, S5, S6, S7, S8, S9, S10, S11, S12, opv, opvs, eget, env0, setD, lenStr, lenSl, isNilP, isNilS, putAt, if_true, if_false, reduceCtorEq, Nat.reduceLeDiff, Nat.reduceEqDiff, Nat.reduceSub, Nat.reduceMul, Nat.reduceAdd]
  have o0 := q0 (by omega)
  refine call_by (by rw [List.append_nil]; exact toRecMessage a0.ts _ h0 (by omega)) ?_
  rintro r σ' ⟨u1, τ1, j1, rfl, rfl, p1, w1⟩
  clear w1
  simp -implicitDefEqProofs only [ne_self, beq_self_eq_true, S0, S1, S2, S3, S4, S5, S6, S7, S8, S9, S10, S11, S12, opv, opvs, eget, env0, setD, lenStr, lenSl, isNilP, isNilS, putAt, if_true, if_false, reduceCtorEq, Nat.reduceLeDiff, Nat.reduceEqDiff, Nat.reduceSub, Nat.reduceMul, Nat.reduceAdd]
  refine call_bor (fun σ => spec_RecMessageOk a0 o0 a1 h1 σ) rfl ⟨_, _, rfl, sees_agg p1 rfl (by simp), _, _, rfl, sees_one rfl, rfl⟩ ?_
  simp -implicitDefEqProofs only [ne_self, beq_self_eq_true, S0, S1, S2, S3, S4, S5, S6, S7, S8, S9, S10, S11, S12, opv, opvs, eget, env0, setD, lenStr, lenSl, isNilP, isNilS, putAt, if_true, if_false, reduceCtorEq, Nat.reduceLeDiff, Nat.reduceEqDiff, Nat.reduceSub, Nat.reduceMul, Nat.reduceAdd]
  refine call_by (by rw [List.append_nil]; exact toRecMessage a0.ts _ h0 (by omega)) ?_
  rintro r σ' ⟨u2, τ2, j2, rfl, rfl, p2, w2⟩
  clear w2
  obtain ⟨v2x0, v2x1, v2x2, v2x3, v2x4, v2x5, v2x6, v2x7, rfl⟩ : ∃ v2x0 v2x1 v2x2 v2x3 v2x4 v2x5 v2x6 v2x7, u2 = [v2x0, v2x1, v2x2, v2x3, v2x4, v2x5, v2x6, v2x7] := list8y p2.len
  have e2 := p2.ones
  simp only [List.all_cons, List.all_nil, Bool.and_eq_true, and_true] at e2
  obtain ⟨e2x0, e2x1, e2x2, e2x3, e2x4, e2x5, e2x6, e2x7⟩ := e2
  simp -implicitDefEqProofs only [e2x0, e2x1, e2x2, e2x3, e2x4, e2x5, e2x6, e2x7, ne_self, beq_self_eq_true, S0, S1, S2, S3, S4, S5, S6, S7, S8, S9, S10, S11, S12, opv, opvs, eget, env0, setD, lenStr, lenSl, isNilP, isNilS, putAt, if_true, if_false, reduceCtorEq, Nat.reduceLeDiff, Nat.reduceEqDiff, Nat.reduceSub, Nat.reduceMul, Nat.reduceAdd]
  refine call_bor (fun σ => impl_RecMessageOk a0 o0 a1 h1 σ) rfl ⟨_, _, rfl, sees_agg p2 rfl (by simp), _, _, rfl, sees_one rfl, rfl⟩ ?_
  simp -implicitDefEqProofs only [e2x0, e2x1, e2x2, e2x3, e2x4, e2x5, e2x6, e2x7, ne_self, beq_self_eq_true, S0, S1, S2, S3, S4, S5, S6, S7, S8, S9, S10, S11, S12, opv, opvs, eget, env0, setD, lenStr, lenSl, isNilP, isNilS, putAt, if_true, if_false, reduceCtorEq, Nat.reduceLeDiff, Nat.reduceEqDiff, Nat.reduceSub, Nat.reduceMul, Nat.reduceAdd]
  refine call_by (by rw [List.append_nil]; exact toRecMessage a0.ts _ h0 (by omega)) ?_
  rintro r σ' ⟨u3, τ3, j3, rfl, rfl, p3, w3⟩
  clear w3
  simp -implicitDefEqProofs only [e2x0, e2x1, e2x2, e2x3, e2x4, e2x5, e2x6, e2x7, ne_self, beq_self_eq_true, S0, S1, S2, S3, S4, S5, S6, S7, S8, S9, S10, S11, S12, opv, opvs, eget, env0, setD, lenStr, lenSl, isNilP, isNilS, putAt, if_true, if_false, reduceCtorEq, Nat.reduceLeDiff, Nat.reduceEqDiff, Nat.reduceSub, Nat.reduceMul, Nat.reduceAdd]
  refine call_bor (fun σ => eqRecMessage a0.ts σ h0 (by omega)) rfl ⟨_, _, rfl, sees_agg p2 rfl (by simp), _, _, rfl, sees_agg p3 rfl (by simp), rfl⟩ ?_
  simp -implicitDefEqProofs only [e2x0, e2x1, e2x2, e2x3, e2x4, e2x5, e2x6, e2x7, ne_self, beq_self_eq_true, S0, S1, S2, S3, S4, S5, S6, S7, S8, S9, S10, S11, S12, opv, opvs, eget, env0, setD, lenStr, lenSl, isNilP, isNilS, putAt, if_true, if_false, reduceCtorEq, Nat.reduceLeDiff, Nat.reduceEqDiff, Nat.reduceSub, Nat.reduceMul, Nat.reduceAdd]
  first | exact fin | exact fin0
end Go.Proofs.Ytleilaipdhmgeaa.LRecMessageOk
