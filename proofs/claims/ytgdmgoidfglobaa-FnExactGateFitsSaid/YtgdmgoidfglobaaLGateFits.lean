/- FnExactGateFits: what the law's code does: it returns true. Conditions: none. -/
import Derived.Test.YtgdmgoidfglobaaGateFits
set_option linter.unusedSimpArgs false
set_option linter.unusedVariables false
set_option linter.defProp false
open Go Go.Ab
set_option maxHeartbeats 4000000
namespace Go.Proofs.Ytgdmgoidfglobaa.LGateFits
open Go.Proofs.Ytgdmgoidfglobaa.W
theorem list11y {l : List V} (h : l.length = 11) : ∃ u0 u1 u2 u3 u4 u5 u6 u7 u8 u9 u10, l = [u0, u1, u2, u3, u4, u5, u6, u7, u8, u9, u10] := by
  match l, h with
  | [u0, u1, u2, u3, u4, u5, u6, u7, u8, u9, u10], _ => exact ⟨u0, u1, u2, u3, u4, u5, u6, u7, u8, u9, u10, rfl⟩
def c_laws_FnExactGateFits : C := (.seq (.ops [⟨(some 2), none, (.box (.t 0))⟩, ⟨(some 4), none, (.mv (.c (.t (.bool false))))⟩]) (.seq (.seq (.ops [⟨(some 9), none, (.mv (.t 1))⟩, ⟨(some 10), none, (.len true (.t 9))⟩, ⟨(some 11), none, (.bin .gtr (.t 10) (.c (.t (.int .i64 1048576))))⟩]) (.cond (.t 11) (.seq (.ops [⟨(some 4), none, (.mv (.c (.t (.bool true))))⟩]) .ret) .skip)) (.seq (.ops [⟨(some 5), none, (.mv (.c (.t (.int .i64 1048576))))⟩]) (.seq (.ops [⟨(some 12), none, (.load (some 11) (.t 2))⟩, ⟨(some 13), none, (.mv (.t 5))⟩, ⟨(some 14), none, (.call (.c (.fn (.func 28) [])) [(.t 12), (.t 13)])⟩, ⟨(some 5), none, (.mv (.t 14))⟩]) (.seq (.seq (.ops [⟨(some 15), none, (.mv (.t 5))⟩, ⟨(some 16), none, (.bin .lss (.t 15) (.c (.t (.int .i64 0))))⟩]) (.cond (.t 16) (.seq (.ops [⟨(some 4), none, (.mv (.c (.t (.bool true))))⟩]) .ret) .skip)) (.seq (.ops [⟨(some 17), none, (.load (some 11) (.t 2))⟩, ⟨(some 18), none, (.call (.c (.fn (.func 30) [])) [(.t 17)])⟩, ⟨(some 19), none, (.mv (.t 1))⟩, ⟨(some 20), none, (.call (.c (.fn (.func 29) [])) [(.t 18), (.t 19)])⟩, ⟨(some 6), none, (.mv (.t 20))⟩]) (.seq (.ops [⟨(some 21), none, (.load (some 11) (.t 2))⟩, ⟨(some 22), none, (.call (.c (.fn (.func 30) [])) [(.t 21)])⟩, ⟨(some 7), none, (.new [(.t (.str [])), (.t (.int .i64 0)), (.t (.int .i64 0)), (.t (.int .i64 0)), .nils, (.t (.str [])), (.t (.int .i64 0)), (.t (.bool false)), (.t (.bool false)), (.t (.str [])), (.t (.str []))])⟩, ⟨none, none, (.store 11 (.t 7) (.t 22))⟩]) (.seq (.ops [⟨(some 23), none, (.load (some 11) (.t 7))⟩, ⟨(some 24), none, (.mv (.t 1))⟩, ⟨(some 25), none, (.call (.c (.fn (.func 31) [])) [(.t 23), (.t 24)])⟩, ⟨(some 8), none, (.mv (.t 25))⟩]) (.seq (.seq (.ops [⟨(some 26), none, (.mv (.t 8))⟩, ⟨(some 27), none, (.mv (.t 6))⟩, ⟨(some 28), none, (.eqB true (.t 26) (.t 27))⟩]) (.cond (.t 28) (.seq (.ops [⟨(some 4), none, (.mv (.c (.t (.bool false))))⟩]) .ret) .skip)) (.seq (.seq (.drawn [(.mk 0 false ⟨(some 29), none, (.load (some 11) (.t 7))⟩ []), (.mk 1 false ⟨(some 30), none, (.load (some 11) (.t 2))⟩ []), (.mk 2 true ⟨(some 31), none, (.call (.c (.fn (.func 30) [])) [(.t 30)])⟩ [⟨(some 29), none, (.load (some 11) (.t 7))⟩]), (.mk 3 false ⟨(some 32), none, (.call (.c (.fn (.func 32) [])) [(.t 29), (.t 31)])⟩ []), (.mk 4 false ⟨(some 33), none, (.un .not (.t 32))⟩ [])]) (.cond (.t 33) (.seq (.ops [⟨(some 4), none, (.mv (.c (.t (.bool false))))⟩]) .ret) .skip)) (.seq (.ops [⟨(some 4), none, (.mv (.c (.t (.bool true))))⟩]) .ret)))))))))))
theorem k_laws_FnExactGateFits : comp Try.prog 34 (Try.f6.body.getD .skip) = some c_laws_FnExactGateFits := by kernel_rfl

theorem lawGateFits (a0 : GateField) (a1 : List UInt8) (h0 : T.isL shGateField a0.ts) (q0 : T.sizeL a0.ts ≤ 1048576 → a0.Ok) (h1 : a1.length ≤ maxLen) (σ : Store) : ACalls Try.prog 6 [.agg a0.vs, .t (.str a1)] σ fun r _ => r = .t (.bool true) := by
  refine acalls_of Try.func6 (by decide +kernel) (code := Try.f6.body.getD .skip) (n := 34) (c := c_laws_FnExactGateFits) (rs := [(.tmp 4)]) rfl rfl k_laws_FnExactGateFits (by kernel_rfl) (by simp) (fun hσ => ?_)
  try simp only [maxLen] at *
  have fin : ∀ {τ : Store}, retV σ.length (fun r _ => r = .t (.bool true)) (σ ++ τ) (some [.t (.bool true)]) := ret_same rfl hσ rfl rfl
  have fin0 : retV σ.length (fun r _ => r = .t (.bool true)) σ (some [.t (.bool true)]) := ret_same0 rfl rfl
  simp -implicitDefEqProofs only [c_laws_FnExactGateFits, GateField.vs, List.length_map, S0, S1, S2, S3, S4, S5, S6, S7, S8, S9, S10, S11, S12, S13, S14, S15, S16, S17, opv, opvs, eget, env0, setD, lenStr, lenSl, isNilP, isNilS, putAt, if_true, if_false, reduceCtorEq, Nat.reduceLeDiff, Nat.reduceEqDiff, Nat.reduceSub, Nat.reduceMul, Nat.reduceAdd]
  refine cond_split (fun g1 => ?_) (fun g1 => ?_)
  · simp -implicitDefEqProofs only [S0, S1, S2, S3, S4, S5, S6, S7, S8, S9, S10, S11, S12, S13, S14, S15, S16, S17, opv, opvs, eget, env0, setD, lenStr, lenSl, isNilP, isNilS, putAt, if_true, if_false, reduceCtorEq, Nat.reduceLeDiff, Nat.reduceEqDiff, Nat.reduceSub, Nat.reduceMul, Nat.reduceAdd]
    first | exact fin | exact fin0
  replace g1 : a1.length ≤ 1048576 := by simp at g1; omega
  simp -implicitDefEqProofs only [ne_self, beq_self_eq_true, S0, S1, S2, S3, S4, S5, S6, S7, S8, S9, S10, S11, S12, S13, S14, S15, S16, S17, opv, opvs, eget, env0, setD, lenStr, lenSl, isNilP, isNilS, putAt, if_true, if_false, reduceCtorEq, Nat.reduceLeDiff, Nat.reduceEqDiff, Nat.reduceSub, Nat.reduceMul, Nat.reduceAdd]
  refine call_by (by rw [List.append_nil]; exact szGateField a0.ts 1048576 _ h0 (by omega) (by omega)) ?_
  rintro r σ' ⟨⟨m1, rfl, hm1, hs1⟩, rfl⟩
  simp -implicitDefEqProofs only [ne_self, beq_self_eq_true, S0, S1, S2, S3, S4, S5, S6, S7, S8, S9, S10, S11, S12, S13, S14, S15, S16, S17, opv, opvs, eget, env0, setD, lenStr, lenSl, isNilP, isNilS, putAt, if_true, if_false, reduceCtorEq, Nat.reduceLeDiff, Nat.reduceEqDiff, Nat.reduceSub, Nat.reduceMul, Nat.reduceAdd]
  refine cond_split (fun h => ?_) (fun h => ?_)
  · simp -implicitDefEqProofs only [S0, S1, S2, S3, S4, S5, S6, S7, S8, S9, S10, S11, S12, S13, S14, S15, S16, S17, opv, opvs, eget, env0, setD, lenStr, lenSl, isNilP, isNilS, putAt, if_true, if_false, reduceCtorEq, Nat.reduceLeDiff, Nat.reduceEqDiff, Nat.reduceSub, Nat.reduceMul, Nat.reduceAdd]
    first | exact fin | exact fin0
  simp only [decide_eq_false_iff_not, Int.not_lt] at h
  replace hs1 := hs1 h
  simp -implicitDefEqProofs only [ne_self, beq_self_eq_true, S0, S1, S2, S3, S4, S5, S6, S7, S8, S9, S10, S11, S12, S13, S14, S15, S16, S17, opv, opvs, eget, env0, setD, lenStr, lenSl, isNilP, isNilS, putAt, if_true, if_false, reduceCtorEq, Nat.reduceLeDiff, Nat.reduceEqDiff, Nat.reduceSub, Nat.reduceMul, Nat.reduceAdd]
  have o0 := q0 (by omega)
  have o1 : a1.length ≤ 1048576 := by omega
  refine call_by (by rw [List.append_nil]; exact toGateField a0.ts _ h0 (by omega)) ?_
  rintro r σ' ⟨u1, τ1, j1, rfl, rfl, p1, w1⟩
  clear w1
  simp -implicitDefEqProofs only [ne_self, beq_self_eq_true, S0, S1, S2, S3, S4, S5, S6, S7, S8, S9, S10, S11, S12, S13, S14, S15, S16, S17, opv, opvs, eget, env0, setD, lenStr, lenSl, isNilP, isNilS, putAt, if_true, if_false, reduceCtorEq, Nat.reduceLeDiff, Nat.reduceEqDiff, Nat.reduceSub, Nat.reduceMul, Nat.reduceAdd]
  refine call_bor (fun σ => spec_GateFits a0 o0 a1 o1 σ) rfl ⟨_, _, rfl, sees_agg p1 rfl (by simp), _, _, rfl, sees_one rfl, rfl⟩ ?_
  simp -implicitDefEqProofs only [ne_self, beq_self_eq_true, S0, S1, S2, S3, S4, S5, S6, S7, S8, S9, S10, S11, S12, S13, S14, S15, S16, S17, opv, opvs, eget, env0, setD, lenStr, lenSl, isNilP, isNilS, putAt, if_true, if_false, reduceCtorEq, Nat.reduceLeDiff, Nat.reduceEqDiff, Nat.reduceSub, Nat.reduceMul, Nat.reduceAdd]
  refine call_by (by rw [List.append_nil]; exact toGateField a0.ts _ h0 (by omega)) ?_
  rintro r σ' ⟨u2, τ2, j2, rfl, rfl, p2, w2⟩
  clear w2
  obtain ⟨v2x0, v2x1, v2x2, v2x3, v2x4, v2x5, v2x6, v2x7, v2x8, v2x9, v2x10, rfl⟩ : ∃ v2x0 v2x1 v2x2 v2x3 v2x4 v2x5 v2x6 v2x7 v2x8 v2x9 v2x10, u2 = [v2x0, v2x1, v2x2, v2x3, v2x4, v2x5, v2x6, v2x7, v2x8, v2x9, v2x10] := list11y p2.len
  have e2 := p2.ones
  simp only [List.all_cons, List.all_nil, Bool.and_eq_true, and_true] at e2
  obtain ⟨e2x0, e2x1, e2x2, e2x3, e2x4, e2x5, e2x6, e2x7, e2x8, e2x9, e2x10⟩ := e2
  simp -implicitDefEqProofs only [e2x0, e2x1, e2x2, e2x3, e2x4, e2x5, e2x6, e2x7, e2x8, e2x9, e2x10, ne_self, beq_self_eq_true, S0, S1, S2, S3, S4, S5, S6, S7, S8, S9, S10, S11, S12, S13, S14, S15, S16, S17, opv, opvs, eget, env0, setD, lenStr, lenSl, isNilP, isNilS, putAt, if_true, if_false, reduceCtorEq, Nat.reduceLeDiff, Nat.reduceEqDiff, Nat.reduceSub, Nat.reduceMul, Nat.reduceAdd]
  refine call_bor (fun σ => impl_GateFits a0 o0 a1 o1 σ) rfl ⟨_, _, rfl, sees_agg p2 rfl (by simp), _, _, rfl, sees_one rfl, rfl⟩ ?_
  simp -implicitDefEqProofs only [e2x0, e2x1, e2x2, e2x3, e2x4, e2x5, e2x6, e2x7, e2x8, e2x9, e2x10, ne_self, beq_self_eq_true, S0, S1, S2, S3, S4, S5, S6, S7, S8, S9, S10, S11, S12, S13, S14, S15, S16, S17, opv, opvs, eget, env0, setD, lenStr, lenSl, isNilP, isNilS, putAt, if_true, if_false, reduceCtorEq, Nat.reduceLeDiff, Nat.reduceEqDiff, Nat.reduceSub, Nat.reduceMul, Nat.reduceAdd]
  refine call_by (by rw [List.append_nil]; exact toGateField a0.ts _ h0 (by omega)) ?_
  rintro r σ' ⟨u3, τ3, j3, rfl, rfl, p3, w3⟩
  clear w3
  simp -implicitDefEqProofs only [e2x0, e2x1, e2x2, e2x3, e2x4, e2x5, e2x6, e2x7, e2x8, e2x9, e2x10, ne_self, beq_self_eq_true, S0, S1, S2, S3, S4, S5, S6, S7, S8, S9, S10, S11, S12, S13, S14, S15, S16, S17, opv, opvs, eget, env0, setD, lenStr, lenSl, isNilP, isNilS, putAt, if_true, if_false, reduceCtorEq, Nat.reduceLeDiff, Nat.reduceEqDiff, Nat.reduceSub, Nat.reduceMul, Nat.reduceAdd]
  refine call_bor (fun σ => eqGateField a0.ts σ h0 (by omega)) rfl ⟨_, _, rfl, sees_agg p2 rfl (by simp), _, _, rfl, sees_agg p3 rfl (by simp), rfl⟩ ?_
  simp -implicitDefEqProofs only [e2x0, e2x1, e2x2, e2x3, e2x4, e2x5, e2x6, e2x7, e2x8, e2x9, e2x10, ne_self, beq_self_eq_true, S0, S1, S2, S3, S4, S5, S6, S7, S8, S9, S10, S11, S12, S13, S14, S15, S16, S17, opv, opvs, eget, env0, setD, lenStr, lenSl, isNilP, isNilS, putAt, if_true, if_false, reduceCtorEq, Nat.reduceLeDiff, Nat.reduceEqDiff, Nat.reduceSub, Nat.reduceMul, Nat.reduceAdd]
  first | exact fin | exact fin0
end Go.Proofs.Ytgdmgoidfglobaa.LGateFits
