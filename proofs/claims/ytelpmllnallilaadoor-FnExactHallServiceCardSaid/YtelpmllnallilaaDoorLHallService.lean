/- FnExactHallService: what the law's code does: it returns true. Conditions: none. -/
import Derived.Test.YtelpmllnallilaaDoorHallServ
set_option linter.unusedSimpArgs false
set_option linter.unusedVariables false
set_option linter.defProp false
open Go Go.Ab
set_option maxHeartbeats 4000000
namespace Go.Proofs.YtelpmllnallilaaDoor.LHallService
open Go.Proofs.YtelpmllnallilaaDoor.W
theorem call_borQG {P : Program} {f : FuncId} {us vs : List V} {σ : Store} {y : V} {K : Tok → V → Prop} {C : Store → Prop} (hC : ∀ σ, C σ → C (husk σ)) (hc : ∀ τ : Store, C (σ ++ τ)) (h : ∀ σ, C σ → ACalls P f vs σ fun r σ' => r = y ∧ σ' = σ) (hy : ∀ n, y.free n = true) (hs : ∀ τ : Store, SeesAs (σ ++ τ) vs us) (hk : K .go y) : callQV P σ (some (.fn (.func f) [])) (some us) K :=
  ⟨y, fun τ => call_borG hC (hc τ) h (hy _) (hs τ) ⟨rfl, rfl⟩, hk⟩
theorem list7y {l : List V} (h : l.length = 7) : ∃ u0 u1 u2 u3 u4 u5 u6, l = [u0, u1, u2, u3, u4, u5, u6] := by
  match l, h with
  | [u0, u1, u2, u3, u4, u5, u6], _ => exact ⟨u0, u1, u2, u3, u4, u5, u6, rfl⟩
def c_laws_FnExactHallService : C := (.seq (.ops [⟨(some 2), none, (.box (.t 0))⟩, ⟨(some 3), none, (.box (.t 1))⟩, ⟨(some 4), none, (.mv (.c (.t (.bool false))))⟩]) (.seq (.ops [⟨(some 5), none, (.mv (.c (.t (.int .i64 1048576))))⟩]) (.seq (.ops [⟨(some 9), none, (.load (some 7) (.t 2))⟩, ⟨(some 10), none, (.mv (.t 5))⟩, ⟨(some 11), none, (.call (.c (.fn (.func 4) [])) [(.t 9), (.t 10)])⟩, ⟨(some 5), none, (.mv (.t 11))⟩]) (.seq (.seq (.ops [⟨(some 12), none, (.mv (.t 5))⟩, ⟨(some 13), none, (.bin .lss (.t 12) (.c (.t (.int .i64 0))))⟩]) (.cond (.t 13) (.seq (.ops [⟨(some 4), none, (.mv (.c (.t (.bool true))))⟩]) .ret) .skip)) (.seq (.ops [⟨(some 14), none, (.load (some 13) (.t 3))⟩, ⟨(some 15), none, (.mv (.t 5))⟩, ⟨(some 16), none, (.call (.c (.fn (.func 5) [])) [(.t 14), (.t 15)])⟩, ⟨(some 5), none, (.mv (.t 16))⟩]) (.seq (.seq (.ops [⟨(some 17), none, (.mv (.t 5))⟩, ⟨(some 18), none, (.bin .lss (.t 17) (.c (.t (.int .i64 0))))⟩]) (.cond (.t 18) (.seq (.ops [⟨(some 4), none, (.mv (.c (.t (.bool true))))⟩]) .ret) .skip)) (.seq (.drawn [(.mk 0 false ⟨(some 19), none, (.load (some 7) (.t 2))⟩ []), (.mk 1 false ⟨(some 20), none, (.callQ (.c (.fn (.func 7) [])) [(.t 19)])⟩ []), (.mk 2 false ⟨(some 21), none, (.load (some 13) (.t 3))⟩ []), (.mk 3 false ⟨(some 22), none, (.callQ (.c (.fn (.func 8) [])) [(.t 21)])⟩ []), (.mk 4 false ⟨(some 23), none, (.callQ (.c (.fn (.func 6) [])) [(.t 20), (.t 22)])⟩ []), (.mk 5 true ⟨(some 6), none, (.new [(.t (.str [])), (.t (.int .i64 0)), (.t (.bool false)), (.t (.int .i64 0)), (.t (.int .i64 0)), (.t (.int .i64 0)), (.t (.int .i64 0)), (.t (.int .i64 0)), (.t (.int .i64 0)), (.t (.int .i64 0)), (.t (.int .i64 0)), (.t (.int .i64 0)), (.t (.int .i64 0))])⟩ [⟨(some 19), none, (.load (some 7) (.t 2))⟩, ⟨(some 20), none, (.callQ (.c (.fn (.func 7) [])) [(.t 19)])⟩, ⟨(some 21), none, (.load (some 13) (.t 3))⟩, ⟨(some 22), none, (.callQ (.c (.fn (.func 8) [])) [(.t 21)])⟩, ⟨(some 23), none, (.callQ (.c (.fn (.func 6) [])) [(.t 20), (.t 22)])⟩]), (.mk 6 false ⟨none, none, (.store 13 (.t 6) (.t 23))⟩ [])]) (.seq (.ops [⟨(some 24), none, (.load (some 7) (.t 2))⟩, ⟨(some 25), none, (.call (.c (.fn (.func 7) [])) [(.t 24)])⟩, ⟨(some 7), none, (.new [(.t (.str [])), (.t (.str [])), (.t (.str [])), .nils, (.t (.bool false)), .nils, (.t (.int .i64 0))])⟩, ⟨none, none, (.store 7 (.t 7) (.t 25))⟩]) (.seq (.drawn [(.mk 0 false ⟨(some 26), none, (.load (some 7) (.t 7))⟩ []), (.mk 1 false ⟨(some 27), none, (.load (some 13) (.t 3))⟩ []), (.mk 2 false ⟨(some 28), none, (.callQ (.c (.fn (.func 8) [])) [(.t 27)])⟩ []), (.mk 3 false ⟨(some 29), none, (.callQ (.c (.fn (.func 9) [])) [(.t 26), (.t 28)])⟩ []), (.mk 4 true ⟨(some 8), none, (.new [(.t (.str [])), (.t (.int .i64 0)), (.t (.bool false)), (.t (.int .i64 0)), (.t (.int .i64 0)), (.t (.int .i64 0)), (.t (.int .i64 0)), (.t (.int .i64 0)), (.t (.int .i64 0)), (.t (.int .i64 0)), (.t (.int .i64 0)), (.t (.int .i64 0)), (.t (.int .i64 0))])⟩ [⟨(some 26), none, (.load (some 7) (.t 7))⟩, ⟨(some 27), none, (.load (some 13) (.t 3))⟩, ⟨(some 28), none, (.callQ (.c (.fn (.func 8) [])) [(.t 27)])⟩, ⟨(some 29), none, (.callQ (.c (.fn (.func 9) [])) [(.t 26), (.t 28)])⟩]), (.mk 5 false ⟨none, none, (.store 13 (.t 8) (.t 29))⟩ [])]) (.seq (.seq (.ops [⟨(some 30), none, (.load (some 13) (.t 8))⟩, ⟨(some 31), none, (.load (some 13) (.t 6))⟩, ⟨(some 32), none, (.call (.c (.fn (.func 10) [])) [(.t 30), (.t 31)])⟩, ⟨(some 33), none, (.un .not (.t 32))⟩]) (.cond (.t 33) (.seq (.ops [⟨(some 4), none, (.mv (.c (.t (.bool false))))⟩]) .ret) .skip)) (.seq (.seq (.drawn [(.mk 0 false ⟨(some 34), none, (.load (some 7) (.t 7))⟩ []), (.mk 1 false ⟨(some 35), none, (.load (some 7) (.t 2))⟩ []), (.mk 2 true ⟨(some 36), none, (.call (.c (.fn (.func 7) [])) [(.t 35)])⟩ [⟨(some 34), none, (.load (some 7) (.t 7))⟩]), (.mk 3 false ⟨(some 37), none, (.call (.c (.fn (.func 11) [])) [(.t 34), (.t 36)])⟩ []), (.mk 4 false ⟨(some 38), none, (.un .not (.t 37))⟩ [])]) (.cond (.t 38) (.seq (.ops [⟨(some 4), none, (.mv (.c (.t (.bool false))))⟩]) .ret) .skip)) (.seq (.ops [⟨(some 4), none, (.mv (.c (.t (.bool true))))⟩]) .ret))))))))))))
theorem k_laws_FnExactHallService : comp Tryd.prog 39 (Tryd.f3.body.getD .skip) = some c_laws_FnExactHallService := by kernel_rfl

theorem lawHallService (a0 : GateObject) (a1 : StewService) (h0 : T.isL shGateObject a0.ts) (q0 : T.sizeL a0.ts ≤ 1048576 → a0.Ok) (h1 : T.isL shStewService a1.ts) (q1 : T.sizeL a1.ts ≤ 1048576 → a1.Ok) (pe : Value) (hpe : pe.oneCell' = true) (σ : Store) (hg : HwAt pe σ) : ACalls Tryd.prog 3 [.agg a0.vs, .agg a1.vs] σ fun r _ => r = .t (.bool true) := by
  refine acalls_of Tryd.func3 (by decide +kernel) (code := Tryd.f3.body.getD .skip) (n := 39) (c := c_laws_FnExactHallService) (rs := [(.tmp 4)]) rfl rfl k_laws_FnExactHallService (by kernel_rfl) (by simp) (fun hσ => ?_)
  try simp only [maxLen] at *
  have fin : ∀ {τ : Store}, retV σ.length (fun r _ => r = .t (.bool true)) (σ ++ τ) (some [.t (.bool true)]) := ret_same rfl hσ rfl rfl
  have fin0 : retV σ.length (fun r _ => r = .t (.bool true)) σ (some [.t (.bool true)]) := ret_same0 rfl rfl
  simp -implicitDefEqProofs only [c_laws_FnExactHallService, GateObject.vs, StewService.vs, List.length_map, S0, S1, S2, S3, S4, S5, S6, S7, S8, S9, S10, S11, S12, S13, S14, S15, S16, S17, opv, opvs, eget, env0, setD, lenStr, lenSl, isNilP, isNilS, putAt, if_true, if_false, reduceCtorEq, Nat.reduceLeDiff, Nat.reduceEqDiff, Nat.reduceSub, Nat.reduceMul, Nat.reduceAdd]
  refine call_by (by rw [List.append_nil]; exact szGateObject a0.ts 1048576 _ h0 (by omega) (by omega)) ?_
  rintro r σ' ⟨⟨m1, rfl, hm1, hs1⟩, rfl⟩
  simp -implicitDefEqProofs only [ne_self, beq_self_eq_true, S0, S1, S2, S3, S4, S5, S6, S7, S8, S9, S10, S11, S12, S13, S14, S15, S16, S17, opv, opvs, eget, env0, setD, lenStr, lenSl, isNilP, isNilS, putAt, if_true, if_false, reduceCtorEq, Nat.reduceLeDiff, Nat.reduceEqDiff, Nat.reduceSub, Nat.reduceMul, Nat.reduceAdd]
  refine cond_split (fun h => ?_) (fun h => ?_)
  · simp -implicitDefEqProofs only [S0, S1, S2, S3, S4, S5, S6, S7, S8, S9, S10, S11, S12, S13, S14, S15, S16, S17, opv, opvs, eget, env0, setD, lenStr, lenSl, isNilP, isNilS, putAt, if_true, if_false, reduceCtorEq, Nat.reduceLeDiff, Nat.reduceEqDiff, Nat.reduceSub, Nat.reduceMul, Nat.reduceAdd]
    first | exact fin | exact fin0
  simp only [decide_eq_false_iff_not, Int.not_lt] at h
  replace hs1 := hs1 h
  simp -implicitDefEqProofs only [ne_self, beq_self_eq_true, S0, S1, S2, S3, S4, S5, S6, S7, S8, S9, S10, S11, S12, S13, S14, S15, S16, S17, opv, opvs, eget, env0, setD, lenStr, lenSl, isNilP, isNilS, putAt, if_true, if_false, reduceCtorEq, Nat.reduceLeDiff, Nat.reduceEqDiff, Nat.reduceSub, Nat.reduceMul, Nat.reduceAdd]
  refine call_by (by rw [List.append_nil]; exact szStewService a1.ts m1 _ h1 (by omega) (by omega)) ?_
  rintro r σ' ⟨⟨m2, rfl, hm2, hs2⟩, rfl⟩
  simp -implicitDefEqProofs only [ne_self, beq_self_eq_true, S0, S1, S2, S3, S4, S5, S6, S7, S8, S9, S10, S11, S12, S13, S14, S15, S16, S17, opv, opvs, eget, env0, setD, lenStr, lenSl, isNilP, isNilS, putAt, if_true, if_false, reduceCtorEq, Nat.reduceLeDiff, Nat.reduceEqDiff, Nat.reduceSub, Nat.reduceMul, Nat.reduceAdd]
  refine cond_split (fun h => ?_) (fun h => ?_)
  · simp -implicitDefEqProofs only [S0, S1, S2, S3, S4, S5, S6, S7, S8, S9, S10, S11, S12, S13, S14, S15, S16, S17, opv, opvs, eget, env0, setD, lenStr, lenSl, isNilP, isNilS, putAt, if_true, if_false, reduceCtorEq, Nat.reduceLeDiff, Nat.reduceEqDiff, Nat.reduceSub, Nat.reduceMul, Nat.reduceAdd]
    first | exact fin | exact fin0
  simp only [decide_eq_false_iff_not, Int.not_lt] at h
  replace hs2 := hs2 h
  simp -implicitDefEqProofs only [ne_self, beq_self_eq_true, S0, S1, S2, S3, S4, S5, S6, S7, S8, S9, S10, S11, S12, S13, S14, S15, S16, S17, opv, opvs, eget, env0, setD, lenStr, lenSl, isNilP, isNilS, putAt, if_true, if_false, reduceCtorEq, Nat.reduceLeDiff, Nat.reduceEqDiff, Nat.reduceSub, Nat.reduceMul, Nat.reduceAdd]
  have o0 := q0 (by omega)
  have o1 := q1 (by omega)
  refine call_pureQ (fun τ => acalls_frzTL (toGateObject a0.ts _ h0 (by omega))) ?_
  simp only [GateObject.vs_ts]
  simp -implicitDefEqProofs only [GateObject.vs, StewService.vs, ne_self, beq_self_eq_true, S0, S1, S2, S3, S4, S5, S6, S7, S8, S9, S10, S11, S12, S13, S14, S15, S16, S17, opv, opvs, eget, env0, setD, lenStr, lenSl, isNilP, isNilS, putAt, if_true, if_false, reduceCtorEq, Nat.reduceLeDiff, Nat.reduceEqDiff, Nat.reduceSub, Nat.reduceMul, Nat.reduceAdd]
  refine call_pureQ (fun τ => acalls_frzTL (toStewService a1.ts _ h1 (by omega))) ?_
  simp only [StewService.vs_ts]
  simp -implicitDefEqProofs only [GateObject.vs, StewService.vs, ne_self, beq_self_eq_true, S0, S1, S2, S3, S4, S5, S6, S7, S8, S9, S10, S11, S12, S13, S14, S15, S16, S17, opv, opvs, eget, env0, setD, lenStr, lenSl, isNilP, isNilS, putAt, if_true, if_false, reduceCtorEq, Nat.reduceLeDiff, Nat.reduceEqDiff, Nat.reduceSub, Nat.reduceMul, Nat.reduceAdd]
  refine call_pureQ (fun τ => spec_HallService a0 o0 a1 o1 _) ?_
  simp -implicitDefEqProofs only [ne_self, beq_self_eq_true, S0, S1, S2, S3, S4, S5, S6, S7, S8, S9, S10, S11, S12, S13, S14, S15, S16, S17, opv, opvs, eget, env0, setD, lenStr, lenSl, isNilP, isNilS, putAt, if_true, if_false, reduceCtorEq, Nat.reduceLeDiff, Nat.reduceEqDiff, Nat.reduceSub, Nat.reduceMul, Nat.reduceAdd]
  refine call_by (by rw [List.append_nil]; exact toGateObject a0.ts _ h0 (by omega)) ?_
  rintro r σ' ⟨u1, τ1, j1, rfl, rfl, p1, w1⟩
  clear w1
  obtain ⟨v1x0, v1x1, v1x2, v1x3, v1x4, v1x5, v1x6, rfl⟩ : ∃ v1x0 v1x1 v1x2 v1x3 v1x4 v1x5 v1x6, u1 = [v1x0, v1x1, v1x2, v1x3, v1x4, v1x5, v1x6] := list7y p1.len
  have e1 := p1.ones
  simp only [List.all_cons, List.all_nil, Bool.and_eq_true, and_true] at e1
  obtain ⟨e1x0, e1x1, e1x2, e1x3, e1x4, e1x5, e1x6⟩ := e1
  simp -implicitDefEqProofs only [e1x0, e1x1, e1x2, e1x3, e1x4, e1x5, e1x6, ne_self, beq_self_eq_true, S0, S1, S2, S3, S4, S5, S6, S7, S8, S9, S10, S11, S12, S13, S14, S15, S16, S17, opv, opvs, eget, env0, setD, lenStr, lenSl, isNilP, isNilS, putAt, if_true, if_false, reduceCtorEq, Nat.reduceLeDiff, Nat.reduceEqDiff, Nat.reduceSub, Nat.reduceMul, Nat.reduceAdd]
  refine call_pureQ (fun τ => acalls_frzTL (toStewService a1.ts _ h1 (by omega))) ?_
  simp only [StewService.vs_ts]
  simp -implicitDefEqProofs only [GateObject.vs, StewService.vs, e1x0, e1x1, e1x2, e1x3, e1x4, e1x5, e1x6, ne_self, beq_self_eq_true, S0, S1, S2, S3, S4, S5, S6, S7, S8, S9, S10, S11, S12, S13, S14, S15, S16, S17, opv, opvs, eget, env0, setD, lenStr, lenSl, isNilP, isNilS, putAt, if_true, if_false, reduceCtorEq, Nat.reduceLeDiff, Nat.reduceEqDiff, Nat.reduceSub, Nat.reduceMul, Nat.reduceAdd]
  refine call_borQG (C := HwAt pe) (fun σ h => h.husk) (fun τ => by repeat' (first | exact hg | refine VarAt.app ?_ _)) (fun σ h => impl_HallService pe hpe a0 o0 a1 o1 σ h) (fun _ => rfl) (fun τ => ⟨_, _, rfl, sees_agg p1 rfl (by simp), _, _, rfl, .inr ⟨a1.ts, _, rfl, rfl, by simp [StewService.ts, SeesL, Sees]⟩, rfl⟩) ?_
  simp -implicitDefEqProofs only [e1x0, e1x1, e1x2, e1x3, e1x4, e1x5, e1x6, ne_self, beq_self_eq_true, S0, S1, S2, S3, S4, S5, S6, S7, S8, S9, S10, S11, S12, S13, S14, S15, S16, S17, opv, opvs, eget, env0, setD, lenStr, lenSl, isNilP, isNilS, putAt, if_true, if_false, reduceCtorEq, Nat.reduceLeDiff, Nat.reduceEqDiff, Nat.reduceSub, Nat.reduceMul, Nat.reduceAdd]
  refine call_pure (eqvStewService _ _ _ _ _ _ _ _ _ _ _ _ _ _) ?_
  simp -implicitDefEqProofs only [e1x0, e1x1, e1x2, e1x3, e1x4, e1x5, e1x6, ne_self, beq_self_eq_true, S0, S1, S2, S3, S4, S5, S6, S7, S8, S9, S10, S11, S12, S13, S14, S15, S16, S17, opv, opvs, eget, env0, setD, lenStr, lenSl, isNilP, isNilS, putAt, if_true, if_false, reduceCtorEq, Nat.reduceLeDiff, Nat.reduceEqDiff, Nat.reduceSub, Nat.reduceMul, Nat.reduceAdd]
  refine call_by (by rw [List.append_nil]; exact toGateObject a0.ts _ h0 (by omega)) ?_
  rintro r σ' ⟨u3, τ3, j3, rfl, rfl, p3, w3⟩
  clear w3
  simp -implicitDefEqProofs only [e1x0, e1x1, e1x2, e1x3, e1x4, e1x5, e1x6, ne_self, beq_self_eq_true, S0, S1, S2, S3, S4, S5, S6, S7, S8, S9, S10, S11, S12, S13, S14, S15, S16, S17, opv, opvs, eget, env0, setD, lenStr, lenSl, isNilP, isNilS, putAt, if_true, if_false, reduceCtorEq, Nat.reduceLeDiff, Nat.reduceEqDiff, Nat.reduceSub, Nat.reduceMul, Nat.reduceAdd]
  refine call_bor (fun σ => eqGateObject a0.ts σ h0 (by omega)) rfl ⟨_, _, rfl, sees_agg p1 rfl (by simp), _, _, rfl, sees_agg p3 rfl (by simp), rfl⟩ ?_
  simp -implicitDefEqProofs only [e1x0, e1x1, e1x2, e1x3, e1x4, e1x5, e1x6, ne_self, beq_self_eq_true, S0, S1, S2, S3, S4, S5, S6, S7, S8, S9, S10, S11, S12, S13, S14, S15, S16, S17, opv, opvs, eget, env0, setD, lenStr, lenSl, isNilP, isNilS, putAt, if_true, if_false, reduceCtorEq, Nat.reduceLeDiff, Nat.reduceEqDiff, Nat.reduceSub, Nat.reduceMul, Nat.reduceAdd]
  first | exact fin | exact fin0
end Go.Proofs.YtelpmllnallilaaDoor.LHallService
