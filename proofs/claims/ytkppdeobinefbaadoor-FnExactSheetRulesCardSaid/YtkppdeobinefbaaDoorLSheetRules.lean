/- FnExactSheetRules: what the law's code does: it returns true. Conditions: none. -/
import Derived.Test.YtkppdeobinefbaaDoorSheetRuleI
import Derived.Test.YtkppdeobinefbaaDoorMarkSheetD
import Derived.Test.YtkppdeobinefbaaDoorAb4
set_option linter.unusedSimpArgs false
set_option linter.unusedVariables false
set_option linter.defProp false
open Go Go.Ab
set_option maxHeartbeats 4000000
namespace Go.Proofs.YtkppdeobinefbaaDoor.LSheetRules
open Go.Proofs.YtkppdeobinefbaaDoor.W
def c_laws_FnExactSheetRules : C := (.seq (.ops [⟨(some 2), none, (.mv (.c (.t (.bool false))))⟩]) (.seq (.seq (.ops [⟨(some 8), none, (.mv (.t 0))⟩, ⟨(some 9), none, (.len true (.t 8))⟩, ⟨(some 10), none, (.bin .gtr (.t 9) (.c (.t (.int .i64 1048576))))⟩]) (.cond (.t 10) (.seq (.ops [⟨(some 2), none, (.mv (.c (.t (.bool true))))⟩]) .ret) .skip)) (.seq (.ops [⟨(some 11), none, (.mv (.t 0))⟩, ⟨(some 12), none, (.call (.c (.fn (.func 12) [])) [(.t 11)])⟩, ⟨(some 3), none, (.mv (.t 12))⟩]) (.seq (.ops [⟨(some 13), none, (.mv (.t 0))⟩, ⟨(some 14), none, (.call (.c (.fn (.func 13) [])) [(.t 13)])⟩, ⟨(some 4), none, (.mv (.t 14))⟩]) (.seq (.seq (.ops [⟨(some 15), none, (.mv (.t 4))⟩, ⟨(some 16), none, (.mv (.t 3))⟩, ⟨(some 17), none, (.call (.c (.fn (.func 14) [])) [(.t 15), (.t 16)])⟩, ⟨(some 18), none, (.un .not (.t 17))⟩]) (.cond (.t 18) (.seq (.ops [⟨(some 2), none, (.mv (.c (.t (.bool false))))⟩]) .ret) .skip)) (.seq (.ops [⟨(some 5), none, (.mv (.c (.t (.int .i64 1))))⟩]) (.seq (.ops [⟨(some 19), none, (.mv (.t 4))⟩, ⟨(some 20), none, (.mv (.t 5))⟩, ⟨(some 21), none, (.call (.c (.fn (.func 15) [])) [(.t 19), (.t 20)])⟩, ⟨(some 5), none, (.mv (.t 21))⟩]) (.seq (.ops [⟨(some 6), none, (.mv (.c (.t (.int .i64 1))))⟩]) (.seq (.ops [⟨(some 22), none, (.mv (.t 4))⟩, ⟨(some 23), none, (.mv (.t 6))⟩, ⟨(some 24), none, (.call (.c (.fn (.func 16) [])) [(.t 22), (.t 23)])⟩, ⟨(some 6), none, (.mv (.t 24))⟩]) (.seq (.seq (.ops [⟨(some 25), none, (.mv (.t 6))⟩, ⟨(some 26), none, (.bin .lss (.t 25) (.c (.t (.int .i64 0))))⟩]) (.cond (.t 26) (.seq (.ops [⟨(some 2), none, (.mv (.c (.t (.bool false))))⟩]) .ret) .skip)) (.seq (.seq (.ops [⟨(some 27), none, (.mv (.t 6))⟩, ⟨(some 28), none, (.mv (.t 5))⟩, ⟨(some 29), none, (.bin .neq (.t 27) (.t 28))⟩]) (.cond (.t 29) (.seq (.ops [⟨(some 2), none, (.mv (.c (.t (.bool false))))⟩]) .ret) .skip)) (.seq (.ops [⟨(some 30), none, (.mv (.t 0))⟩, ⟨(some 31), none, (.call (.c (.fn (.func 13) [])) [(.t 30)])⟩, ⟨(some 7), none, (.mv (.t 31))⟩]) (.seq (.seq (.ops [⟨(some 32), none, (.mv (.t 7))⟩, ⟨(some 33), none, (.mv (.t 3))⟩, ⟨(some 34), none, (.call (.c (.fn (.func 14) [])) [(.t 32), (.t 33)])⟩, ⟨(some 35), none, (.un .not (.t 34))⟩]) (.cond (.t 35) (.seq (.ops [⟨(some 2), none, (.mv (.c (.t (.bool false))))⟩]) .ret) .skip)) (.seq (.ops [⟨(some 6), none, (.mv (.c (.t (.int .i64 1))))⟩]) (.seq (.ops [⟨(some 36), none, (.mv (.t 4))⟩, ⟨(some 37), none, (.mv (.t 6))⟩, ⟨(some 38), none, (.call (.c (.fn (.func 16) [])) [(.t 36), (.t 37)])⟩, ⟨(some 6), none, (.mv (.t 38))⟩]) (.seq (.seq (.ops [⟨(some 39), none, (.mv (.t 6))⟩, ⟨(some 40), none, (.bin .lss (.t 39) (.c (.t (.int .i64 0))))⟩]) (.cond (.t 40) (.seq (.ops [⟨(some 2), none, (.mv (.c (.t (.bool false))))⟩]) .ret) .skip)) (.seq (.seq (.ops [⟨(some 41), none, (.mv (.t 6))⟩, ⟨(some 42), none, (.mv (.t 5))⟩, ⟨(some 43), none, (.bin .neq (.t 41) (.t 42))⟩]) (.cond (.t 43) (.seq (.ops [⟨(some 2), none, (.mv (.c (.t (.bool false))))⟩]) .ret) .skip)) (.seq (.ops [⟨(some 2), none, (.mv (.c (.t (.bool true))))⟩]) .ret))))))))))))))))))
theorem k_laws_FnExactSheetRules : comp Tryd.prog 44 (Tryd.f3.body.getD .skip) = some c_laws_FnExactSheetRules := by kernel_rfl

theorem lawSheetRules (a0 : List UInt8) (h0 : a0.length ≤ maxLen) (σ : Store) : ACalls Tryd.prog 3 [.t (.str a0)] σ fun r _ => r = .t (.bool true) := by
  refine acalls_of Tryd.func3 (by decide +kernel) (code := Tryd.f3.body.getD .skip) (n := 44) (c := c_laws_FnExactSheetRules) (rs := [(.tmp 2)]) rfl rfl k_laws_FnExactSheetRules (by kernel_rfl) (by simp) (fun hσ => ?_)
  try simp only [maxLen] at *
  have fin : ∀ {τ : Store}, retV σ.length (fun r _ => r = .t (.bool true)) (σ ++ τ) (some [.t (.bool true)]) := ret_same rfl hσ rfl rfl
  have fin0 : retV σ.length (fun r _ => r = .t (.bool true)) σ (some [.t (.bool true)]) := ret_same0 rfl rfl
  simp -implicitDefEqProofs only [c_laws_FnExactSheetRules, S0, S1, S2, S3, S4, S5, S6, S7, S8, S9, S10, S11, S12, S13, S14, S15, S16, S17, opv, opvs, eget, env0, setD, lenStr, lenSl, isNilP, isNilS, putAt, if_true, if_false, reduceCtorEq, Nat.reduceLeDiff, Nat.reduceEqDiff, Nat.reduceSub, Nat.reduceMul, Nat.reduceAdd]
  refine cond_split (fun g0 => ?_) (fun g0 => ?_)
  · simp -implicitDefEqProofs only [S0, S1, S2, S3, S4, S5, S6, S7, S8, S9, S10, S11, S12, S13, S14, S15, S16, S17, opv, opvs, eget, env0, setD, lenStr, lenSl, isNilP, isNilS, putAt, if_true, if_false, reduceCtorEq, Nat.reduceLeDiff, Nat.reduceEqDiff, Nat.reduceSub, Nat.reduceMul, Nat.reduceAdd]
    first | exact fin | exact fin0
  replace g0 : a0.length ≤ 1048576 := by simp at g0; omega
  simp -implicitDefEqProofs only [nat_neg, List.append_nil, ne_self, beq_self_eq_true, S0, S1, S2, S3, S4, S5, S6, S7, S8, S9, S10, S11, S12, S13, S14, S15, S16, S17, opv, opvs, eget, env0, setD, lenStr, lenSl, isNilP, isNilS, putAt, if_true, if_false, reduceCtorEq, Nat.reduceLeDiff, Nat.reduceEqDiff, Nat.reduceSub, Nat.reduceMul, Nat.reduceAdd]
  have o0 : a0.length ≤ 1048576 := by omega
  obtain ⟨hT, hzt⟩ := res_SheetRules a0 o0
  have Sp := fun σ => specF_SheetRules a0 o0 σ
  have Ip := fun σ => implO_SheetRules a0 o0 σ
  generalize (resT_SheetRules a0) = t at hT hzt Sp Ip
  have hmt : (T.mk markTxt 1 t).2 < 4611686018427387904 := by
    have := mk_ub (mt := markTxt) (t := t) (k := 1) (c := (.sl 4 shSheetRule)) (by decide) hT
    omega
  have IpF := fun σ => acalls_frzT (Ip σ)
  try simp -implicitDefEqProofs only [nat_neg, List.append_nil, ne_self, beq_self_eq_true, S0, S1, S2, S3, S4, S5, S6, S7, S8, S9, S10, S11, S12, S13, S14, S15, S16, S17, opv, opvs, eget, env0, setD, lenStr, lenSl, isNilP, isNilS, putAt, if_true, if_false, reduceCtorEq, Nat.reduceLeDiff, Nat.reduceEqDiff, Nat.reduceSub, Nat.reduceMul, Nat.reduceAdd]
  refine call_pure (Sp _) ?_
  simp -implicitDefEqProofs only [nat_neg, List.append_nil, ne_self, beq_self_eq_true, S0, S1, S2, S3, S4, S5, S6, S7, S8, S9, S10, S11, S12, S13, S14, S15, S16, S17, opv, opvs, eget, env0, setD, lenStr, lenSl, isNilP, isNilS, putAt, if_true, if_false, reduceCtorEq, Nat.reduceLeDiff, Nat.reduceEqDiff, Nat.reduceSub, Nat.reduceMul, Nat.reduceAdd]
  refine call_new (acalls_to Ip ⟨_, _, rfl, sees_one rfl, rfl⟩) ?_
  rintro u1 s1 j1 le1 k1 p1 w1
  have on1 := p1.one
  simp -implicitDefEqProofs only [nat_neg, List.append_nil, one_cells on1, on1, ne_self, beq_self_eq_true, S0, S1, S2, S3, S4, S5, S6, S7, S8, S9, S10, S11, S12, S13, S14, S15, S16, S17, opv, opvs, eget, env0, setD, lenStr, lenSl, isNilP, isNilS, putAt, if_true, if_false, reduceCtorEq, Nat.reduceLeDiff, Nat.reduceEqDiff, Nat.reduceSub, Nat.reduceMul, Nat.reduceAdd]
  refine call_bor (fun σ => eqSheetRuleS t σ hT (by omega)) rfl ⟨_, _, rfl, sees_lst p1 rfl (List.prefix_refl _), _, _, rfl, seesA_t (by decide) hT, rfl⟩ ?_
  simp -implicitDefEqProofs only [nat_neg, List.append_nil, one_cells on1, on1, ne_self, beq_self_eq_true, S0, S1, S2, S3, S4, S5, S6, S7, S8, S9, S10, S11, S12, S13, S14, S15, S16, S17, opv, opvs, eget, env0, setD, lenStr, lenSl, isNilP, isNilS, putAt, if_true, if_false, reduceCtorEq, Nat.reduceLeDiff, Nat.reduceEqDiff, Nat.reduceSub, Nat.reduceMul, Nat.reduceAdd]
  refine call_by (by rw [List.append_nil]; exact markSheetRuleS t u1 j1 1 _ hT (by omega) p1 w1.1 (Nat.le_refl _) hmt) ?_
  rintro r s2 ⟨rfl, q2, le2, kb2⟩
  have kb2' : Kb j1 s1 s2 := kb2
  have Hp := fun σ => heldSheetRuleS t 1 σ hT (by omega) (Nat.le_refl _) hmt
  simp -implicitDefEqProofs only [nat_neg, List.append_nil, one_cells on1, on1, ne_self, beq_self_eq_true, S0, S1, S2, S3, S4, S5, S6, S7, S8, S9, S10, S11, S12, S13, S14, S15, S16, S17, opv, opvs, eget, env0, setD, lenStr, lenSl, isNilP, isNilS, putAt, if_true, if_false, reduceCtorEq, Nat.reduceLeDiff, Nat.reduceEqDiff, Nat.reduceSub, Nat.reduceMul, Nat.reduceAdd]
  refine call_bor (y := .t (.int .i64 ((T.mk markTxt 1 t).2 : Nat))) (fun σ => Hp σ) rfl ⟨_, _, rfl, sees_lst q2 rfl (List.prefix_refl _), _, _, rfl, sees_one rfl, rfl⟩ ?_
  simp -implicitDefEqProofs only [nat_neg, List.append_nil, one_cells on1, on1, ne_self, beq_self_eq_true, S0, S1, S2, S3, S4, S5, S6, S7, S8, S9, S10, S11, S12, S13, S14, S15, S16, S17, opv, opvs, eget, env0, setD, lenStr, lenSl, isNilP, isNilS, putAt, if_true, if_false, reduceCtorEq, Nat.reduceLeDiff, Nat.reduceEqDiff, Nat.reduceSub, Nat.reduceMul, Nat.reduceAdd]
  refine call_pure (IpF _) ?_
  simp -implicitDefEqProofs only [nat_neg, List.append_nil, one_cells on1, on1, ne_self, beq_self_eq_true, S0, S1, S2, S3, S4, S5, S6, S7, S8, S9, S10, S11, S12, S13, S14, S15, S16, S17, opv, opvs, eget, env0, setD, lenStr, lenSl, isNilP, isNilS, putAt, if_true, if_false, reduceCtorEq, Nat.reduceLeDiff, Nat.reduceEqDiff, Nat.reduceSub, Nat.reduceMul, Nat.reduceAdd]
  refine call_pure (eqSheetRuleS t _ hT (by omega)) ?_
  simp -implicitDefEqProofs only [nat_neg, List.append_nil, one_cells on1, on1, ne_self, beq_self_eq_true, S0, S1, S2, S3, S4, S5, S6, S7, S8, S9, S10, S11, S12, S13, S14, S15, S16, S17, opv, opvs, eget, env0, setD, lenStr, lenSl, isNilP, isNilS, putAt, if_true, if_false, reduceCtorEq, Nat.reduceLeDiff, Nat.reduceEqDiff, Nat.reduceSub, Nat.reduceMul, Nat.reduceAdd]
  refine call_bor (y := .t (.int .i64 ((T.mk markTxt 1 t).2 : Nat))) (fun σ => Hp σ) rfl ⟨_, _, rfl, sees_lst q2 rfl (List.prefix_refl _), _, _, rfl, sees_one rfl, rfl⟩ ?_
  simp -implicitDefEqProofs only [nat_neg, List.append_nil, one_cells on1, on1, ne_self, beq_self_eq_true, S0, S1, S2, S3, S4, S5, S6, S7, S8, S9, S10, S11, S12, S13, S14, S15, S16, S17, opv, opvs, eget, env0, setD, lenStr, lenSl, isNilP, isNilS, putAt, if_true, if_false, reduceCtorEq, Nat.reduceLeDiff, Nat.reduceEqDiff, Nat.reduceSub, Nat.reduceMul, Nat.reduceAdd]
  refine fin_keep ?_ rfl
  omega
end Go.Proofs.YtkppdeobinefbaaDoor.LSheetRules
