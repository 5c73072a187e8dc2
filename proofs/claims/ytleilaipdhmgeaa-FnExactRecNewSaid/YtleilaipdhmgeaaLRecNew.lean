/- FnExactRecNew: what the law's code does: it returns true. Conditions: none. -/
import Derived.Test.YtleilaipdhmgeaaRecNew
set_option linter.unusedSimpArgs false
set_option linter.unusedVariables false
set_option linter.defProp false
open Go Go.Ab
set_option maxHeartbeats 4000000
namespace Go.Proofs.Ytleilaipdhmgeaa.LRecNew
open Go.Proofs.Ytleilaipdhmgeaa.W
def c_laws_FnExactRecNew : C := (.seq (.ops [⟨(some 4), none, (.mv (.c (.t (.bool false))))⟩]) (.seq (.ops [⟨(some 10), none, (.mv (.t 0))⟩, ⟨(some 11), none, (.mv (.t 1))⟩, ⟨(some 12), none, (.call (.c (.fn (.func 38) [])) [(.t 10), (.t 11)])⟩, ⟨(some 5), none, (.new [(.t (.int .i64 0)), (.t (.int .i64 0)), (.t (.bool false)), (.t (.int .i64 0)), (.t (.int .i64 0)), .nils, (.t (.int .i64 0)), (.t (.int .i64 0)), .nils, .nils, .nils, (.t (.bool false)), (.t (.bool false)), (.t (.int .i64 0)), .nils, .nils, .nils, (.t (.int .i64 0))])⟩, ⟨none, none, (.store 18 (.t 5) (.t 12))⟩]) (.seq (.ops [⟨(some 13), none, (.mv (.t 0))⟩, ⟨(some 14), none, (.mv (.t 1))⟩, ⟨(some 15), none, (.call (.c (.fn (.func 39) [])) [(.t 13), (.t 14)])⟩, ⟨(some 6), none, (.new [(.t (.int .i64 0)), (.t (.int .i64 0)), (.t (.bool false)), (.t (.int .i64 0)), (.t (.int .i64 0)), .nils, (.t (.int .i64 0)), (.t (.int .i64 0)), .nils, .nils, .nils, (.t (.bool false)), (.t (.bool false)), (.t (.int .i64 0)), .nils, .nils, .nils, (.t (.int .i64 0))])⟩, ⟨none, none, (.store 18 (.t 6) (.t 15))⟩]) (.seq (.seq (.ops [⟨(some 16), none, (.load (some 18) (.t 6))⟩, ⟨(some 17), none, (.load (some 18) (.t 5))⟩, ⟨(some 18), none, (.call (.c (.fn (.func 40) [])) [(.t 16), (.t 17)])⟩, ⟨(some 19), none, (.un .not (.t 18))⟩]) (.cond (.t 19) (.seq (.ops [⟨(some 4), none, (.mv (.c (.t (.bool false))))⟩]) .ret) .skip)) (.seq (.ops [⟨(some 7), none, (.mv (.c (.t (.int .i64 1))))⟩]) (.seq (.ops [⟨(some 20), none, (.load (some 18) (.t 6))⟩, ⟨(some 21), none, (.mv (.t 7))⟩, ⟨(some 22), none, (.call (.c (.fn (.func 41) [])) [(.t 20), (.t 21)])⟩, ⟨(some 7), none, (.mv (.t 22))⟩]) (.seq (.ops [⟨(some 8), none, (.mv (.c (.t (.int .i64 1))))⟩]) (.seq (.ops [⟨(some 23), none, (.load (some 18) (.t 6))⟩, ⟨(some 24), none, (.mv (.t 8))⟩, ⟨(some 25), none, (.call (.c (.fn (.func 42) [])) [(.t 23), (.t 24)])⟩, ⟨(some 8), none, (.mv (.t 25))⟩]) (.seq (.seq (.ops [⟨(some 26), none, (.mv (.t 8))⟩, ⟨(some 27), none, (.bin .lss (.t 26) (.c (.t (.int .i64 0))))⟩]) (.cond (.t 27) (.seq (.ops [⟨(some 4), none, (.mv (.c (.t (.bool false))))⟩]) .ret) .skip)) (.seq (.seq (.ops [⟨(some 28), none, (.mv (.t 8))⟩, ⟨(some 29), none, (.mv (.t 7))⟩, ⟨(some 30), none, (.bin .neq (.t 28) (.t 29))⟩]) (.cond (.t 30) (.seq (.ops [⟨(some 4), none, (.mv (.c (.t (.bool false))))⟩]) .ret) .skip)) (.seq (.ops [⟨(some 31), none, (.mv (.t 0))⟩, ⟨(some 32), none, (.mv (.t 1))⟩, ⟨(some 33), none, (.call (.c (.fn (.func 39) [])) [(.t 31), (.t 32)])⟩, ⟨(some 9), none, (.new [(.t (.int .i64 0)), (.t (.int .i64 0)), (.t (.bool false)), (.t (.int .i64 0)), (.t (.int .i64 0)), .nils, (.t (.int .i64 0)), (.t (.int .i64 0)), .nils, .nils, .nils, (.t (.bool false)), (.t (.bool false)), (.t (.int .i64 0)), .nils, .nils, .nils, (.t (.int .i64 0))])⟩, ⟨none, none, (.store 18 (.t 9) (.t 33))⟩]) (.seq (.seq (.ops [⟨(some 34), none, (.load (some 18) (.t 9))⟩, ⟨(some 35), none, (.load (some 18) (.t 5))⟩, ⟨(some 36), none, (.call (.c (.fn (.func 40) [])) [(.t 34), (.t 35)])⟩, ⟨(some 37), none, (.un .not (.t 36))⟩]) (.cond (.t 37) (.seq (.ops [⟨(some 4), none, (.mv (.c (.t (.bool false))))⟩]) .ret) .skip)) (.seq (.ops [⟨(some 8), none, (.mv (.c (.t (.int .i64 1))))⟩]) (.seq (.ops [⟨(some 38), none, (.load (some 18) (.t 6))⟩, ⟨(some 39), none, (.mv (.t 8))⟩, ⟨(some 40), none, (.call (.c (.fn (.func 42) [])) [(.t 38), (.t 39)])⟩, ⟨(some 8), none, (.mv (.t 40))⟩]) (.seq (.seq (.ops [⟨(some 41), none, (.mv (.t 8))⟩, ⟨(some 42), none, (.bin .lss (.t 41) (.c (.t (.int .i64 0))))⟩]) (.cond (.t 42) (.seq (.ops [⟨(some 4), none, (.mv (.c (.t (.bool false))))⟩]) .ret) .skip)) (.seq (.seq (.ops [⟨(some 43), none, (.mv (.t 8))⟩, ⟨(some 44), none, (.mv (.t 7))⟩, ⟨(some 45), none, (.bin .neq (.t 43) (.t 44))⟩]) (.cond (.t 45) (.seq (.ops [⟨(some 4), none, (.mv (.c (.t (.bool false))))⟩]) .ret) .skip)) (.seq (.ops [⟨(some 4), none, (.mv (.c (.t (.bool true))))⟩]) .ret)))))))))))))))))
theorem k_laws_FnExactRecNew : comp Try.prog 46 (Try.f7.body.getD .skip) = some c_laws_FnExactRecNew := by kernel_rfl

theorem res_cases (n o : Int) : ∃ a b u, newRes n o = newVs a b u ∧ ((Lit.int .i64 n).wf = true → (Lit.int .i64 o).wf = true → (Lit.int .i64 a).wf = true ∧ (Lit.int .i64 b).wf = true) := by
  unfold newRes
  split
  · exact ⟨n, o, true, rfl, fun h k => ⟨h, k⟩⟩
  · exact ⟨0, 0, false, rfl, fun _ _ => ⟨wf0, wf0⟩⟩
theorem seesN {σ : Store} (a b : Int) (u : Bool) : SeesA σ (.agg ((newTs a b u).map .t)) (.agg (newVs a b u)) := .inr ⟨newTs a b u, _, rfl, rfl, (own_new σ a b u).sees⟩
theorem lawRecNew (n o : Int) (hn : (Lit.int .i64 n).wf = true) (ho : (Lit.int .i64 o).wf = true) (σ : Store) : ACalls Try.prog 7 [.t (.int .i64 n), .t (.int .i64 o)] σ fun r _ => r = .t (.bool true) := by
  refine acalls_of Try.func7 (by decide +kernel) (code := Try.f7.body.getD .skip) (n := 46) (c := c_laws_FnExactRecNew) (rs := [(.tmp 4)]) rfl rfl k_laws_FnExactRecNew (by kernel_rfl) (by simp) (fun hσ => ?_)
  obtain ⟨a, b, u, he, hw⟩ := res_cases n o
  obtain ⟨ha, hb⟩ := hw hn ho
  have hT := is_new (up := u) ha hb
  have hz := size_new a b u
  have Sp := fun σ => spec_RecNew n (wf_i64 hn) o (wf_i64 ho) σ
  have Ip := fun σ => impl_RecNew n (wf_i64 hn) o (wf_i64 ho) σ
  rw [he] at Sp Ip
  simp -implicitDefEqProofs only [c_laws_FnExactRecNew, S0, S1, S2, S3, S4, S5, S6, S7, S8, S9, S10, S11, S12, opv, opvs, eget, env0, setD, lenStr, lenSl, isNilP, isNilS, putAt, if_true, if_false, reduceCtorEq, Nat.reduceLeDiff, Nat.reduceEqDiff, Nat.reduceSub, Nat.reduceMul, Nat.reduceAdd]
  refine call_pure (Sp _) ?_
  simp -implicitDefEqProofs only [newVs, S0, S1, S2, S3, S4, S5, S6, S7, S8, S9, S10, S11, S12, opv, opvs, eget, env0, setD, lenStr, lenSl, isNilP, isNilS, putAt, if_true, if_false, reduceCtorEq, Nat.reduceLeDiff, Nat.reduceEqDiff, Nat.reduceSub, Nat.reduceMul, Nat.reduceAdd]
  refine call_pure (Ip _) ?_
  simp -implicitDefEqProofs only [newVs, S0, S1, S2, S3, S4, S5, S6, S7, S8, S9, S10, S11, S12, opv, opvs, eget, env0, setD, lenStr, lenSl, isNilP, isNilS, putAt, if_true, if_false, reduceCtorEq, Nat.reduceLeDiff, Nat.reduceEqDiff, Nat.reduceSub, Nat.reduceMul, Nat.reduceAdd]
  refine call_bor (fun σ => eqRecorder (newTs a b u) σ hT (by omega)) rfl ⟨_, _, rfl, seesN a b u, _, _, rfl, seesN a b u, rfl⟩ ?_
  simp -implicitDefEqProofs only [ne_self, S0, S1, S2, S3, S4, S5, S6, S7, S8, S9, S10, S11, S12, opv, opvs, eget, env0, setD, lenStr, lenSl, isNilP, isNilS, putAt, if_true, if_false, reduceCtorEq, Nat.reduceLeDiff, Nat.reduceEqDiff, Nat.reduceSub, Nat.reduceMul, Nat.reduceAdd]
  refine call_by (by rw [List.append_nil]; exact markRecorder (newTs a b u) (newVs a b u) [] 1 _ hT (by omega) (own_new _ a b u) (by simp) (by omega) (by rw [mk_new]; simp)) ?_
  rw [mk_new]
  rintro r s1 ⟨rfl, q1, y1, f1⟩
  have e1 := f1 σ.length (by simp) (by simp)
  have e2 := f1 (σ.length + 1) (by simp) (by simp)
  simp only [q_app_get0, q_app_get, List.getElem?_cons_zero, List.getElem?_cons_succ] at e1 e2
  have l1 := (List.getElem?_eq_some_iff.1 e1).1
  have l2 := (List.getElem?_eq_some_iff.1 e2).1
  have g1 : ∀ τ, (s1 ++ τ)[σ.length]? = s1[σ.length]? := fun τ => List.getElem?_append_left l1
  have g2 : ∀ τ, (s1 ++ τ)[σ.length + 1]? = s1[σ.length + 1]? := fun τ => List.getElem?_append_left l2
  have one1 : decide (((1 : Nat) : Int) < 0) = false := by decide
  have Hp := fun σ => heldRecorder (newTs a b u) 1 σ hT (by omega) (by omega) (by rw [mk_new]; simp)
  rw [mk_new] at Hp
  simp only at Hp
  simp -implicitDefEqProofs only [e1, e2, g1, g2, one1, ne_self, S0, S1, S2, S3, S4, S5, S6, S7, S8, S9, S10, S11, S12, opv, opvs, eget, env0, setD, lenStr, lenSl, isNilP, isNilS, putAt, if_true, if_false, reduceCtorEq, Nat.reduceLeDiff, Nat.reduceEqDiff, Nat.reduceSub, Nat.reduceMul, Nat.reduceAdd]
  refine call_bor (y := .t (.int .i64 ((1 : Nat) : Int))) (fun σ => Hp σ) rfl ⟨_, _, rfl, seesN a b u, _, _, rfl, sees_one rfl, rfl⟩ ?_
  simp -implicitDefEqProofs only [e1, e2, g1, g2, one1, ne_self, S0, S1, S2, S3, S4, S5, S6, S7, S8, S9, S10, S11, S12, opv, opvs, eget, env0, setD, lenStr, lenSl, isNilP, isNilS, putAt, if_true, if_false, reduceCtorEq, Nat.reduceLeDiff, Nat.reduceEqDiff, Nat.reduceSub, Nat.reduceMul, Nat.reduceAdd]
  refine call_pure (Ip _) ?_
  simp -implicitDefEqProofs only [e1, e2, g1, g2, one1, ne_self, newVs, S0, S1, S2, S3, S4, S5, S6, S7, S8, S9, S10, S11, S12, opv, opvs, eget, env0, setD, lenStr, lenSl, isNilP, isNilS, putAt, if_true, if_false, reduceCtorEq, Nat.reduceLeDiff, Nat.reduceEqDiff, Nat.reduceSub, Nat.reduceMul, Nat.reduceAdd]
  refine call_bor (fun σ => eqRecorder (newTs a b u) σ hT (by omega)) rfl ⟨_, _, rfl, seesN a b u, _, _, rfl, seesN a b u, rfl⟩ ?_
  simp -implicitDefEqProofs only [e1, e2, g1, g2, one1, ne_self, S0, S1, S2, S3, S4, S5, S6, S7, S8, S9, S10, S11, S12, opv, opvs, eget, env0, setD, lenStr, lenSl, isNilP, isNilS, putAt, if_true, if_false, reduceCtorEq, Nat.reduceLeDiff, Nat.reduceEqDiff, Nat.reduceSub, Nat.reduceMul, Nat.reduceAdd]
  refine call_bor (y := .t (.int .i64 ((1 : Nat) : Int))) (fun σ => Hp σ) rfl ⟨_, _, rfl, seesN a b u, _, _, rfl, sees_one rfl, rfl⟩ ?_
  simp -implicitDefEqProofs only [e1, e2, g1, g2, one1, ne_self, S0, S1, S2, S3, S4, S5, S6, S7, S8, S9, S10, S11, S12, opv, opvs, eget, env0, setD, lenStr, lenSl, isNilP, isNilS, putAt, if_true, if_false, reduceCtorEq, Nat.reduceLeDiff, Nat.reduceEqDiff, Nat.reduceSub, Nat.reduceMul, Nat.reduceAdd]
  refine fin_keep ?_ rfl
  simp only [List.length_append, List.length_cons, List.length_nil] at y1 ⊢
  omega
end Go.Proofs.Ytleilaipdhmgeaa.LRecNew
