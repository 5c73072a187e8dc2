/- FnExactStewMayEnd: what the law's code does: it returns true. Conditions: none. -/
import Derived.Test.YtabakekeicbpbaaStewMayE
set_option linter.unusedSimpArgs false
set_option linter.unusedVariables false
set_option linter.defProp false
open Go Go.Ab
set_option maxHeartbeats 4000000
namespace Go.Proofs.Ytabakekeicbpbaa.LStewMayEnd
open Go.Proofs.Ytabakekeicbpbaa.W
theorem list4y {l : List V} (h : l.length = 4) : ∃ u0 u1 u2 u3, l = [u0, u1, u2, u3] := by
  match l, h with
  | [u0, u1, u2, u3], _ => exact ⟨u0, u1, u2, u3, rfl⟩
def c_laws_FnExactStewMayEnd : C := (.seq (.ops [⟨(some 3), none, (.box (.t 0))⟩, ⟨(some 6), none, (.mv (.c (.t (.bool false))))⟩]) (.seq (.seq (.ops [⟨(some 11), none, (.mv (.t 1))⟩, ⟨(some 12), none, (.len true (.t 11))⟩, ⟨(some 13), none, (.bin .gtr (.t 12) (.c (.t (.int .i64 1048576))))⟩]) (.cond (.t 13) (.seq (.ops [⟨(some 6), none, (.mv (.c (.t (.bool true))))⟩]) .ret) .skip)) (.seq (.ops [⟨(some 7), none, (.mv (.c (.t (.int .i64 1048576))))⟩]) (.seq (.ops [⟨(some 14), none, (.load (some 4) (.t 3))⟩, ⟨(some 15), none, (.mv (.t 7))⟩, ⟨(some 16), none, (.call (.c (.fn (.func 10) [])) [(.t 14), (.t 15)])⟩, ⟨(some 7), none, (.mv (.t 16))⟩]) (.seq (.seq (.ops [⟨(some 17), none, (.mv (.t 7))⟩, ⟨(some 18), none, (.bin .lss (.t 17) (.c (.t (.int .i64 0))))⟩]) (.cond (.t 18) (.seq (.ops [⟨(some 6), none, (.mv (.c (.t (.bool true))))⟩]) .ret) .skip)) (.seq (.ops [⟨(some 19), none, (.load (some 4) (.t 3))⟩, ⟨(some 20), none, (.call (.c (.fn (.func 12) [])) [(.t 19)])⟩, ⟨(some 21), none, (.mv (.t 1))⟩, ⟨(some 22), none, (.mv (.t 2))⟩, ⟨(some 23), none, (.call (.c (.fn (.func 23) [])) [(.t 20), (.t 21), (.t 22)])⟩, ⟨(some 8), none, (.mv (.t 23))⟩]) (.seq (.ops [⟨(some 24), none, (.load (some 4) (.t 3))⟩, ⟨(some 25), none, (.call (.c (.fn (.func 12) [])) [(.t 24)])⟩, ⟨(some 9), none, (.new [(.t (.int .i64 0)), .nils, .nils, .nils])⟩, ⟨none, none, (.store 4 (.t 9) (.t 25))⟩]) (.seq (.ops [⟨(some 26), none, (.load (some 4) (.t 9))⟩, ⟨(some 27), none, (.mv (.t 1))⟩, ⟨(some 28), none, (.mv (.t 2))⟩, ⟨(some 29), none, (.call (.c (.fn (.func 24) [])) [(.t 26), (.t 27), (.t 28)])⟩, ⟨(some 10), none, (.mv (.t 29))⟩]) (.seq (.seq (.ops [⟨(some 30), none, (.mv (.t 10))⟩, ⟨(some 31), none, (.mv (.t 8))⟩, ⟨(some 32), none, (.eqB true (.t 30) (.t 31))⟩]) (.cond (.t 32) (.seq (.ops [⟨(some 6), none, (.mv (.c (.t (.bool false))))⟩]) .ret) .skip)) (.seq (.seq (.drawn [(.mk 0 false ⟨(some 33), none, (.load (some 4) (.t 9))⟩), (.mk 1 false ⟨(some 34), none, (.load (some 4) (.t 3))⟩), (.mk 2 true ⟨(some 35), none, (.call (.c (.fn (.func 12) [])) [(.t 34)])⟩), (.mk 3 false ⟨(some 36), none, (.call (.c (.fn (.func 14) [])) [(.t 33), (.t 35)])⟩), (.mk 4 false ⟨(some 37), none, (.un .not (.t 36))⟩)]) (.cond (.t 37) (.seq (.ops [⟨(some 6), none, (.mv (.c (.t (.bool false))))⟩]) .ret) .skip)) (.seq (.ops [⟨(some 6), none, (.mv (.c (.t (.bool true))))⟩]) .ret)))))))))))
theorem k_laws_FnExactStewMayEnd : comp Try.prog 38 (Try.f6.body.getD .skip) = some c_laws_FnExactStewMayEnd := by kernel_rfl

theorem lawStewMayEnd (a0 : StewBook) (a1 : List UInt8) (a2 : Int) (h0 : T.isL shStewBook a0.ts) (q0 : T.sizeL a0.ts ≤ 1048576 → a0.Ok) (h1 : a1.length ≤ maxLen) (h2 : i64r a2) (σ : Store) : ACalls Try.prog 6 [.agg a0.vs, .t (.str a1), .t (.int .i64 a2)] σ fun r _ => r = .t (.bool true) := by
  refine acalls_of Try.func6 (by decide +kernel) (code := Try.f6.body.getD .skip) (n := 38) (c := c_laws_FnExactStewMayEnd) (rs := [(.tmp 6)]) rfl rfl k_laws_FnExactStewMayEnd (by kernel_rfl) (by simp) (fun hσ => ?_)
  try simp only [maxLen] at *
  have fin : ∀ {τ : Store}, retV σ.length (fun r _ => r = .t (.bool true)) (σ ++ τ) (some [.t (.bool true)]) := ret_same rfl hσ rfl rfl
  have fin0 : retV σ.length (fun r _ => r = .t (.bool true)) σ (some [.t (.bool true)]) := ret_same0 rfl rfl
  simp -implicitDefEqProofs only [c_laws_FnExactStewMayEnd, StewBook.vs, List.length_map, S0, S1, S2, S3, S4, S5, S6, S7, S8, S9, S10, S11, S12, S13, S14, S15, S16, opv, opvs, eget, env0, setD, lenStr, lenSl, isNilP, isNilS, putAt, if_true, if_false, reduceCtorEq, Nat.reduceLeDiff, Nat.reduceEqDiff, Nat.reduceSub, Nat.reduceMul, Nat.reduceAdd]
  refine cond_split (fun g1 => ?_) (fun g1 => ?_)
  · simp -implicitDefEqProofs only [S0, S1, S2, S3, S4, S5, S6, S7, S8, S9, S10, S11, S12, S13, S14, S15, S16, opv, opvs, eget, env0, setD, lenStr, lenSl, isNilP, isNilS, putAt, if_true, if_false, reduceCtorEq, Nat.reduceLeDiff, Nat.reduceEqDiff, Nat.reduceSub, Nat.reduceMul, Nat.reduceAdd]
    first | exact fin | exact fin0
  replace g1 : a1.length ≤ 1048576 := by simp at g1; omega
  simp -implicitDefEqProofs only [ne_self, beq_self_eq_true, S0, S1, S2, S3, S4, S5, S6, S7, S8, S9, S10, S11, S12, S13, S14, S15, S16, opv, opvs, eget, env0, setD, lenStr, lenSl, isNilP, isNilS, putAt, if_true, if_false, reduceCtorEq, Nat.reduceLeDiff, Nat.reduceEqDiff, Nat.reduceSub, Nat.reduceMul, Nat.reduceAdd]
  refine call_by (by rw [List.append_nil]; exact szStewBook a0.ts 1048576 _ h0 (by omega) (by omega)) ?_
  rintro r σ' ⟨⟨m1, rfl, hm1, hs1⟩, rfl⟩
  simp -implicitDefEqProofs only [ne_self, beq_self_eq_true, S0, S1, S2, S3, S4, S5, S6, S7, S8, S9, S10, S11, S12, S13, S14, S15, S16, opv, opvs, eget, env0, setD, lenStr, lenSl, isNilP, isNilS, putAt, if_true, if_false, reduceCtorEq, Nat.reduceLeDiff, Nat.reduceEqDiff, Nat.reduceSub, Nat.reduceMul, Nat.reduceAdd]
  refine cond_split (fun h => ?_) (fun h => ?_)
  · simp -implicitDefEqProofs only [S0, S1, S2, S3, S4, S5, S6, S7, S8, S9, S10, S11, S12, S13, S14, S15, S16, opv, opvs, eget, env0, setD, lenStr, lenSl, isNilP, isNilS, putAt, if_true, if_false, reduceCtorEq, Nat.reduceLeDiff, Nat.reduceEqDiff, Nat.reduceSub, Nat.reduceMul, Nat.reduceAdd]
    first | exact fin | exact fin0
  simp only [decide_eq_false_iff_not, Int.not_lt] at h
  replace hs1 := hs1 h
  simp -implicitDefEqProofs only [ne_self, beq_self_eq_true, S0, S1, S2, S3, S4, S5, S6, S7, S8, S9, S10, S11, S12, S13, S14, S15, S16, opv, opvs, eget, env0, setD, lenStr, lenSl, isNilP, isNilS, putAt, if_true, if_false, reduceCtorEq, Nat.reduceLeDiff, Nat.reduceEqDiff, Nat.reduceSub, Nat.reduceMul, Nat.reduceAdd]
  have o0 := q0 (by omega)
  have o1 : a1.length ≤ 1048576 := by omega
  refine call_by (by rw [List.append_nil]; exact toStewBook a0.ts _ h0 (by omega)) ?_
  rintro r σ' ⟨u1, τ1, j1, rfl, rfl, p1, w1⟩
  clear w1
  simp -implicitDefEqProofs only [ne_self, beq_self_eq_true, S0, S1, S2, S3, S4, S5, S6, S7, S8, S9, S10, S11, S12, S13, S14, S15, S16, opv, opvs, eget, env0, setD, lenStr, lenSl, isNilP, isNilS, putAt, if_true, if_false, reduceCtorEq, Nat.reduceLeDiff, Nat.reduceEqDiff, Nat.reduceSub, Nat.reduceMul, Nat.reduceAdd]
  refine call_bor (fun σ => spec_StewMayEnd a0 o0 a1 o1 a2 h2 σ) rfl ⟨_, _, rfl, sees_agg p1 rfl (by simp), _, _, rfl, sees_one rfl, _, _, rfl, sees_one rfl, rfl⟩ ?_
  simp -implicitDefEqProofs only [ne_self, beq_self_eq_true, S0, S1, S2, S3, S4, S5, S6, S7, S8, S9, S10, S11, S12, S13, S14, S15, S16, opv, opvs, eget, env0, setD, lenStr, lenSl, isNilP, isNilS, putAt, if_true, if_false, reduceCtorEq, Nat.reduceLeDiff, Nat.reduceEqDiff, Nat.reduceSub, Nat.reduceMul, Nat.reduceAdd]
  refine call_by (by rw [List.append_nil]; exact toStewBook a0.ts _ h0 (by omega)) ?_
  rintro r σ' ⟨u2, τ2, j2, rfl, rfl, p2, w2⟩
  clear w2
  obtain ⟨v2x0, v2x1, v2x2, v2x3, rfl⟩ : ∃ v2x0 v2x1 v2x2 v2x3, u2 = [v2x0, v2x1, v2x2, v2x3] := list4y p2.len
  have e2 := p2.ones
  simp only [List.all_cons, List.all_nil, Bool.and_eq_true, and_true] at e2
  obtain ⟨e2x0, e2x1, e2x2, e2x3⟩ := e2
  simp -implicitDefEqProofs only [e2x0, e2x1, e2x2, e2x3, ne_self, beq_self_eq_true, S0, S1, S2, S3, S4, S5, S6, S7, S8, S9, S10, S11, S12, S13, S14, S15, S16, opv, opvs, eget, env0, setD, lenStr, lenSl, isNilP, isNilS, putAt, if_true, if_false, reduceCtorEq, Nat.reduceLeDiff, Nat.reduceEqDiff, Nat.reduceSub, Nat.reduceMul, Nat.reduceAdd]
  refine call_bor (fun σ => impl_StewMayEnd a0 o0 a1 o1 a2 h2 σ) rfl ⟨_, _, rfl, sees_agg p2 rfl (by simp), _, _, rfl, sees_one rfl, _, _, rfl, sees_one rfl, rfl⟩ ?_
  simp -implicitDefEqProofs only [e2x0, e2x1, e2x2, e2x3, ne_self, beq_self_eq_true, S0, S1, S2, S3, S4, S5, S6, S7, S8, S9, S10, S11, S12, S13, S14, S15, S16, opv, opvs, eget, env0, setD, lenStr, lenSl, isNilP, isNilS, putAt, if_true, if_false, reduceCtorEq, Nat.reduceLeDiff, Nat.reduceEqDiff, Nat.reduceSub, Nat.reduceMul, Nat.reduceAdd]
  refine call_by (by rw [List.append_nil]; exact toStewBook a0.ts _ h0 (by omega)) ?_
  rintro r σ' ⟨u3, τ3, j3, rfl, rfl, p3, w3⟩
  clear w3
  simp -implicitDefEqProofs only [e2x0, e2x1, e2x2, e2x3, ne_self, beq_self_eq_true, S0, S1, S2, S3, S4, S5, S6, S7, S8, S9, S10, S11, S12, S13, S14, S15, S16, opv, opvs, eget, env0, setD, lenStr, lenSl, isNilP, isNilS, putAt, if_true, if_false, reduceCtorEq, Nat.reduceLeDiff, Nat.reduceEqDiff, Nat.reduceSub, Nat.reduceMul, Nat.reduceAdd]
  refine call_bor (fun σ => eqStewBook a0.ts σ h0 (by omega)) rfl ⟨_, _, rfl, sees_agg p2 rfl (by simp), _, _, rfl, sees_agg p3 rfl (by simp), rfl⟩ ?_
  simp -implicitDefEqProofs only [e2x0, e2x1, e2x2, e2x3, ne_self, beq_self_eq_true, S0, S1, S2, S3, S4, S5, S6, S7, S8, S9, S10, S11, S12, S13, S14, S15, S16, opv, opvs, eget, env0, setD, lenStr, lenSl, isNilP, isNilS, putAt, if_true, if_false, reduceCtorEq, Nat.reduceLeDiff, Nat.reduceEqDiff, Nat.reduceSub, Nat.reduceMul, Nat.reduceAdd]
  first | exact fin | exact fin0
end Go.Proofs.Ytabakekeicbpbaa.LStewMayEnd
