/- FnExactSheetPrint: what the law's code does: it returns true. Conditions: none. -/
import Derived.Test.YtnnnemgbgilfaaaDoorSheetPrint
set_option linter.unusedSimpArgs false
set_option linter.unusedVariables false
set_option linter.defProp false
open Go Go.Ab
set_option maxHeartbeats 4000000
namespace Go.Proofs.YtnnnemgbgilfaaaDoor.LSheetPrint
open Go.Proofs.YtnnnemgbgilfaaaDoor.W
theorem list1y {l : List V} (h : l.length = 1) : ∃ u0, l = [u0] := by
  match l, h with
  | [u0], _ => exact ⟨u0, rfl⟩
def c_laws_FnExactSheetPrint : C := (.seq (.ops [⟨(some 1), none, (.box (.t 0))⟩, ⟨(some 2), none, (.mv (.c (.t (.bool false))))⟩]) (.seq (.ops [⟨(some 3), none, (.mv (.c (.t (.int .i64 1048576))))⟩]) (.seq (.ops [⟨(some 7), none, (.load (some 1) (.t 1))⟩, ⟨(some 8), none, (.mv (.t 3))⟩, ⟨(some 9), none, (.call (.c (.fn (.func 18) [])) [(.t 7), (.t 8)])⟩, ⟨(some 3), none, (.mv (.t 9))⟩]) (.seq (.seq (.ops [⟨(some 10), none, (.mv (.t 3))⟩, ⟨(some 11), none, (.bin .lss (.t 10) (.c (.t (.int .i64 0))))⟩]) (.cond (.t 11) (.seq (.ops [⟨(some 2), none, (.mv (.c (.t (.bool true))))⟩]) .ret) .skip)) (.seq (.ops [⟨(some 12), none, (.load (some 1) (.t 1))⟩, ⟨(some 13), none, (.call (.c (.fn (.func 20) [])) [(.t 12)])⟩, ⟨(some 14), none, (.call (.c (.fn (.func 19) [])) [(.t 13)])⟩, ⟨(some 4), none, (.mv (.t 14))⟩]) (.seq (.ops [⟨(some 15), none, (.load (some 1) (.t 1))⟩, ⟨(some 16), none, (.call (.c (.fn (.func 20) [])) [(.t 15)])⟩, ⟨(some 5), none, (.new [.nils])⟩, ⟨none, none, (.store 1 (.t 5) (.t 16))⟩]) (.seq (.ops [⟨(some 17), none, (.load (some 1) (.t 5))⟩, ⟨(some 18), none, (.call (.c (.fn (.func 21) [])) [(.t 17)])⟩, ⟨(some 6), none, (.mv (.t 18))⟩]) (.seq (.seq (.ops [⟨(some 19), none, (.mv (.t 6))⟩, ⟨(some 20), none, (.mv (.t 4))⟩, ⟨(some 21), none, (.bin .neq (.t 19) (.t 20))⟩]) (.cond (.t 21) (.seq (.ops [⟨(some 2), none, (.mv (.c (.t (.bool false))))⟩]) .ret) .skip)) (.seq (.seq (.drawn [(.mk 0 false ⟨(some 22), none, (.load (some 1) (.t 5))⟩ []), (.mk 1 false ⟨(some 23), none, (.load (some 1) (.t 1))⟩ []), (.mk 2 true ⟨(some 24), none, (.call (.c (.fn (.func 20) [])) [(.t 23)])⟩ [⟨(some 22), none, (.load (some 1) (.t 5))⟩]), (.mk 3 false ⟨(some 25), none, (.call (.c (.fn (.func 22) [])) [(.t 22), (.t 24)])⟩ []), (.mk 4 false ⟨(some 26), none, (.un .not (.t 25))⟩ [])]) (.cond (.t 26) (.seq (.ops [⟨(some 2), none, (.mv (.c (.t (.bool false))))⟩]) .ret) .skip)) (.seq (.ops [⟨(some 2), none, (.mv (.c (.t (.bool true))))⟩]) .ret))))))))))
theorem k_laws_FnExactSheetPrint : comp Tryd.prog 27 (Tryd.f4.body.getD .skip) = some c_laws_FnExactSheetPrint := by kernel_rfl

theorem lawSheetPrint (a0 : Sheet) (h0 : T.isL shSheet a0.ts) (q0 : T.sizeL a0.ts ≤ 1048576 → a0.Ok) (σ : Store) : ACalls Tryd.prog 4 [.agg a0.vs] σ fun r _ => r = .t (.bool true) := by
  refine acalls_of Tryd.func4 (by decide +kernel) (code := Tryd.f4.body.getD .skip) (n := 27) (c := c_laws_FnExactSheetPrint) (rs := [(.tmp 2)]) rfl rfl k_laws_FnExactSheetPrint (by kernel_rfl) (by simp) (fun hσ => ?_)
  try simp only [maxLen] at *
  have fin : ∀ {τ : Store}, retV σ.length (fun r _ => r = .t (.bool true)) (σ ++ τ) (some [.t (.bool true)]) := ret_same rfl hσ rfl rfl
  have fin0 : retV σ.length (fun r _ => r = .t (.bool true)) σ (some [.t (.bool true)]) := ret_same0 rfl rfl
  simp -implicitDefEqProofs only [c_laws_FnExactSheetPrint, Sheet.vs, List.length_map, S0, S1, S2, S3, S4, S5, S6, S7, S8, S9, S10, S11, S12, S13, S14, S15, S16, S17, opv, opvs, eget, env0, setD, lenStr, lenSl, isNilP, isNilS, putAt, if_true, if_false, reduceCtorEq, Nat.reduceLeDiff, Nat.reduceEqDiff, Nat.reduceSub, Nat.reduceMul, Nat.reduceAdd]
  refine call_by (by rw [List.append_nil]; exact szSheet a0.ts 1048576 _ h0 (by omega) (by omega)) ?_
  rintro r σ' ⟨⟨m1, rfl, hm1, hs1⟩, rfl⟩
  simp -implicitDefEqProofs only [ne_self, beq_self_eq_true, S0, S1, S2, S3, S4, S5, S6, S7, S8, S9, S10, S11, S12, S13, S14, S15, S16, S17, opv, opvs, eget, env0, setD, lenStr, lenSl, isNilP, isNilS, putAt, if_true, if_false, reduceCtorEq, Nat.reduceLeDiff, Nat.reduceEqDiff, Nat.reduceSub, Nat.reduceMul, Nat.reduceAdd]
  refine cond_split (fun h => ?_) (fun h => ?_)
  · simp -implicitDefEqProofs only [S0, S1, S2, S3, S4, S5, S6, S7, S8, S9, S10, S11, S12, S13, S14, S15, S16, S17, opv, opvs, eget, env0, setD, lenStr, lenSl, isNilP, isNilS, putAt, if_true, if_false, reduceCtorEq, Nat.reduceLeDiff, Nat.reduceEqDiff, Nat.reduceSub, Nat.reduceMul, Nat.reduceAdd]
    first | exact fin | exact fin0
  simp only [decide_eq_false_iff_not, Int.not_lt] at h
  replace hs1 := hs1 h
  simp -implicitDefEqProofs only [ne_self, beq_self_eq_true, S0, S1, S2, S3, S4, S5, S6, S7, S8, S9, S10, S11, S12, S13, S14, S15, S16, S17, opv, opvs, eget, env0, setD, lenStr, lenSl, isNilP, isNilS, putAt, if_true, if_false, reduceCtorEq, Nat.reduceLeDiff, Nat.reduceEqDiff, Nat.reduceSub, Nat.reduceMul, Nat.reduceAdd]
  have o0 := q0 (by omega)
  refine call_by (by rw [List.append_nil]; exact toSheet a0.ts _ h0 (by omega)) ?_
  rintro r σ' ⟨u1, τ1, j1, rfl, rfl, p1, w1⟩
  clear w1
  simp -implicitDefEqProofs only [ne_self, beq_self_eq_true, S0, S1, S2, S3, S4, S5, S6, S7, S8, S9, S10, S11, S12, S13, S14, S15, S16, S17, opv, opvs, eget, env0, setD, lenStr, lenSl, isNilP, isNilS, putAt, if_true, if_false, reduceCtorEq, Nat.reduceLeDiff, Nat.reduceEqDiff, Nat.reduceSub, Nat.reduceMul, Nat.reduceAdd]
  refine call_bor (fun σ => spec_SheetPrint a0 o0 σ) rfl ⟨_, _, rfl, sees_agg p1 rfl (by simp), rfl⟩ ?_
  simp -implicitDefEqProofs only [ne_self, beq_self_eq_true, S0, S1, S2, S3, S4, S5, S6, S7, S8, S9, S10, S11, S12, S13, S14, S15, S16, S17, opv, opvs, eget, env0, setD, lenStr, lenSl, isNilP, isNilS, putAt, if_true, if_false, reduceCtorEq, Nat.reduceLeDiff, Nat.reduceEqDiff, Nat.reduceSub, Nat.reduceMul, Nat.reduceAdd]
  refine call_by (by rw [List.append_nil]; exact toSheet a0.ts _ h0 (by omega)) ?_
  rintro r σ' ⟨u2, τ2, j2, rfl, rfl, p2, w2⟩
  clear w2
  obtain ⟨v2x0, rfl⟩ : ∃ v2x0, u2 = [v2x0] := list1y p2.len
  have e2 := p2.ones
  simp only [List.all_cons, List.all_nil, Bool.and_eq_true, and_true] at e2
  simp -implicitDefEqProofs only [e2, ne_self, beq_self_eq_true, S0, S1, S2, S3, S4, S5, S6, S7, S8, S9, S10, S11, S12, S13, S14, S15, S16, S17, opv, opvs, eget, env0, setD, lenStr, lenSl, isNilP, isNilS, putAt, if_true, if_false, reduceCtorEq, Nat.reduceLeDiff, Nat.reduceEqDiff, Nat.reduceSub, Nat.reduceMul, Nat.reduceAdd]
  refine call_bor (fun σ => impl_SheetPrint a0 o0 σ) rfl ⟨_, _, rfl, sees_agg p2 rfl (by simp), rfl⟩ ?_
  simp -implicitDefEqProofs only [e2, ne_self, beq_self_eq_true, S0, S1, S2, S3, S4, S5, S6, S7, S8, S9, S10, S11, S12, S13, S14, S15, S16, S17, opv, opvs, eget, env0, setD, lenStr, lenSl, isNilP, isNilS, putAt, if_true, if_false, reduceCtorEq, Nat.reduceLeDiff, Nat.reduceEqDiff, Nat.reduceSub, Nat.reduceMul, Nat.reduceAdd]
  refine call_by (by rw [List.append_nil]; exact toSheet a0.ts _ h0 (by omega)) ?_
  rintro r σ' ⟨u3, τ3, j3, rfl, rfl, p3, w3⟩
  clear w3
  simp -implicitDefEqProofs only [e2, ne_self, beq_self_eq_true, S0, S1, S2, S3, S4, S5, S6, S7, S8, S9, S10, S11, S12, S13, S14, S15, S16, S17, opv, opvs, eget, env0, setD, lenStr, lenSl, isNilP, isNilS, putAt, if_true, if_false, reduceCtorEq, Nat.reduceLeDiff, Nat.reduceEqDiff, Nat.reduceSub, Nat.reduceMul, Nat.reduceAdd]
  refine call_bor (fun σ => eqSheet a0.ts σ h0 (by omega)) rfl ⟨_, _, rfl, sees_agg p2 rfl (by simp), _, _, rfl, sees_agg p3 rfl (by simp), rfl⟩ ?_
  simp -implicitDefEqProofs only [e2, ne_self, beq_self_eq_true, S0, S1, S2, S3, S4, S5, S6, S7, S8, S9, S10, S11, S12, S13, S14, S15, S16, S17, opv, opvs, eget, env0, setD, lenStr, lenSl, isNilP, isNilS, putAt, if_true, if_false, reduceCtorEq, Nat.reduceLeDiff, Nat.reduceEqDiff, Nat.reduceSub, Nat.reduceMul, Nat.reduceAdd]
  first | exact fin | exact fin0
end Go.Proofs.YtnnnemgbgilfaaaDoor.LSheetPrint
