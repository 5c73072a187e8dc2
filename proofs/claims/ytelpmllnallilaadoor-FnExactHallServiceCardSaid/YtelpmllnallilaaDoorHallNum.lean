/- Decimals of the hall. Conditions: none. -/
import Derived.Test.YtelpmllnallilaaDoorGateNumH
import Derived.Test.YtelpmllnallilaaDoorAtoiNum
set_option linter.unusedSimpArgs false
set_option linter.unusedVariables false
set_option linter.defProp false
open Go Go.Ab
set_option maxHeartbeats 2000000
namespace Go.Proofs.YtelpmllnallilaaDoor.W
def c_spec_l31Value : C := (.seq (.ops [⟨(some 2), none, (.mv (.c (.t (.int .i64 0))))⟩]) (.seq (.ops [⟨(some 4), none, (.mv (.t 0))⟩, ⟨(some 5), none, (.call (.c (.fn (.func 18) [])) [(.t 4)])⟩, ⟨(some 3), none, (.mv (.t 5))⟩]) (.seq (.seq (.ops [⟨(some 6), none, (.mv (.t 3))⟩, ⟨(some 7), none, (.bin .lss (.t 6) (.c (.t (.int .i64 0))))⟩]) (.cond (.t 7) (.seq (.ops [⟨(some 2), none, (.mv (.c (.t (.int .i64 0))))⟩]) .ret) .skip)) (.seq (.ops [⟨(some 8), none, (.mv (.t 3))⟩, ⟨(some 2), none, (.mv (.t 8))⟩]) .ret))))
theorem k_spec_l31Value : comp Tryd.prog 9 (Tryd.f13.body.getD .skip) = some c_spec_l31Value := by kernel_rfl

theorem spec_l31Value (s : List UInt8) (hs : s.length ≤ 1048576)  (σ : Store) : ACalls Tryd.prog 13 [.t (.str (s))] σ fun rr σ' => rr = .t (.int .i64 (decV s)) ∧ σ' = σ := by
  refine acalls_of Tryd.func13 (by decide +kernel) (code := Tryd.f13.body.getD .skip) (n := 9) (c := c_spec_l31Value) (rs := [(.tmp 2)]) rfl rfl k_spec_l31Value (by kernel_rfl) (by simp) (fun hσ => ?_)
  have hh : True := trivial
  have fin : ∀ {u : V} {τ : Store}, u = .t (.int .i64 (decV s)) → u.lt σ.length = true → retV σ.length (fun rr σ' => rr = .t (.int .i64 (decV s)) ∧ σ' = σ) (σ ++ τ) (some [u]) := fun h h2 => ret_same rfl hσ h2 ⟨h, rfl⟩
  have fin0 : ∀ {u : V}, u = .t (.int .i64 (decV s)) → retV σ.length (fun rr σ' => rr = .t (.int .i64 (decV s)) ∧ σ' = σ) σ (some [u]) := fun h => ret_same0 rfl ⟨h, rfl⟩
  have hb := dec_bnd s
  simp -implicitDefEqProofs only [c_spec_l31Value, S0, S1, S2, S3, S4, S5, S6, S7, S8, S9, S10, S11, S12, S13, S14, S15, S16, S17, opv, opvs, eget, env0, setD, lenStr, lenSl, isNilP, isNilS, putAt, if_true, if_false, reduceCtorEq, Nat.reduceLeDiff, Nat.reduceEqDiff, Nat.reduceSub, Nat.reduceMul, Nat.reduceAdd]
  refine call_pure (spec_l1Number s hs _) ?_
  simp -implicitDefEqProofs only [S0, S1, S2, S3, S4, S5, S6, S7, S8, S9, S10, S11, S12, S13, S14, S15, S16, S17, opv, opvs, eget, env0, setD, lenStr, lenSl, isNilP, isNilS, putAt, if_true, if_false, reduceCtorEq, Nat.reduceLeDiff, Nat.reduceEqDiff, Nat.reduceSub, Nat.reduceMul, Nat.reduceAdd]
  refine cond_split (fun h => ?_) (fun h => ?_)
  · simp -implicitDefEqProofs only [S0, S1, S2, S3, S4, S5, S6, S7, S8, S9, S10, S11, S12, S13, S14, S15, S16, S17, opv, opvs, eget, env0, setD, lenStr, lenSl, isNilP, isNilS, putAt, if_true, if_false, reduceCtorEq, Nat.reduceLeDiff, Nat.reduceEqDiff, Nat.reduceSub, Nat.reduceMul, Nat.reduceAdd]
    have e : decV s = 0 := by simp at h; omega
    first | exact fin0 (by rw [e]) | exact fin (by rw [e]) rfl
  · simp -implicitDefEqProofs only [S0, S1, S2, S3, S4, S5, S6, S7, S8, S9, S10, S11, S12, S13, S14, S15, S16, S17, opv, opvs, eget, env0, setD, lenStr, lenSl, isNilP, isNilS, putAt, if_true, if_false, reduceCtorEq, Nat.reduceLeDiff, Nat.reduceEqDiff, Nat.reduceSub, Nat.reduceMul, Nat.reduceAdd]
    have e : numV s = decV s := by simp at h; omega
    first | exact fin0 (by rw [e]) | exact fin (by rw [e]) rfl

def c_impl_hwIsDecimal : C := (.seq (.ops [⟨(some 2), none, (.mv (.c (.t (.bool false))))⟩]) (.seq (.seq (.ops [⟨(some 4), none, (.mv (.t 0))⟩, ⟨(some 5), none, (.len true (.t 4))⟩, ⟨(some 6), none, (.bin .lss (.t 5) (.c (.t (.int .i64 1))))⟩, ⟨(some 7), none, (.mv (.t 6))⟩, ⟨(some 8), (some ⟨7, false⟩), (.mv (.t 0))⟩, ⟨(some 9), (some ⟨7, false⟩), (.len true (.t 8))⟩, ⟨(some 10), (some ⟨7, false⟩), (.bin .gtr (.t 9) (.c (.t (.int .i64 7))))⟩, ⟨(some 11), none, (.pick (.t 7) (.c (.t (.bool true))) (.t 10))⟩, ⟨(some 12), none, (.mv (.t 11))⟩, ⟨(some 13), (some ⟨12, false⟩), (.mv (.t 0))⟩, ⟨(some 14), (some ⟨12, false⟩), (.len true (.t 13))⟩, ⟨(some 15), (some ⟨12, false⟩), (.bin .gtr (.t 14) (.c (.t (.int .i64 1))))⟩, ⟨(some 16), (some ⟨12, false⟩), (.mv (.t 15))⟩, ⟨(some 17), (some ⟨16, true⟩), (.mv (.t 0))⟩, ⟨(some 18), (some ⟨16, true⟩), (.index (.t 17) (.c (.t (.int .i64 0))))⟩, ⟨(some 19), (some ⟨16, true⟩), (.bin .eql (.t 18) (.c (.t (.int .u8 48))))⟩, ⟨(some 20), (some ⟨12, false⟩), (.pick (.t 16) (.t 19) (.c (.t (.bool false))))⟩, ⟨(some 21), none, (.pick (.t 12) (.c (.t (.bool true))) (.t 20))⟩]) (.cond (.t 21) (.seq (.ops [⟨(some 2), none, (.mv (.c (.t (.bool false))))⟩]) .ret) .skip)) (.seq (.seq (.ops [⟨(some 22), none, (.mv (.t 0))⟩, ⟨(some 23), none, (.len true (.t 22))⟩, ⟨(some 24), none, (.mv (.c (.t (.int .i64 0))))⟩]) (.block 0 (.loop (.seq (.ops [⟨(some 25), none, (.bin .lss (.t 24) (.t 23))⟩]) (.seq (.cond (.t 25) .skip (.exit 0)) (.seq (.block 1 (.seq (.ops [⟨(some 26), none, (.mv (.t 24))⟩, ⟨(some 3), none, (.mv (.t 26))⟩]) (.seq (.ops [⟨(some 27), none, (.mv (.t 0))⟩, ⟨(some 28), none, (.mv (.t 3))⟩, ⟨(some 29), none, (.index (.t 27) (.t 28))⟩, ⟨(some 30), none, (.bin .lss (.t 29) (.c (.t (.int .u8 48))))⟩, ⟨(some 31), none, (.mv (.t 30))⟩, ⟨(some 32), (some ⟨31, false⟩), (.mv (.t 0))⟩, ⟨(some 33), (some ⟨31, false⟩), (.mv (.t 3))⟩, ⟨(some 34), (some ⟨31, false⟩), (.index (.t 32) (.t 33))⟩, ⟨(some 35), (some ⟨31, false⟩), (.bin .gtr (.t 34) (.c (.t (.int .u8 57))))⟩, ⟨(some 36), none, (.pick (.t 31) (.c (.t (.bool true))) (.t 35))⟩]) (.cond (.t 36) (.seq (.ops [⟨(some 2), none, (.mv (.c (.t (.bool false))))⟩]) .ret) .skip)))) (.ops [⟨(some 37), none, (.bin .add (.t 24) (.c (.t (.int .i64 1))))⟩, ⟨(some 24), none, (.mv (.t 37))⟩]))))))) (.seq (.ops [⟨(some 2), none, (.mv (.c (.t (.bool true))))⟩]) .ret))))
theorem k_impl_hwIsDecimal : comp Tryd.prog 38 (Tryd.f19.body.getD .skip) = some c_impl_hwIsDecimal := by kernel_rfl

theorem impl_hwIsDecimal (s : List UInt8) (hs : s.length ≤ 1048576) (σ : Store) : ACalls Tryd.prog 19 [.t (.str (s))] σ fun rr σ' => rr = .t (.bool (decG s)) ∧ σ' = σ := by
  refine acalls_of Tryd.func19 (by decide +kernel) (code := Tryd.f19.body.getD .skip) (n := 38) (c := c_impl_hwIsDecimal) (rs := [(.tmp 2)]) rfl rfl k_impl_hwIsDecimal (by kernel_rfl) (by simp) (fun hσ => ?_)
  have hh : True := trivial
  have fin : ∀ {u : V} {τ : Store}, u = .t (.bool (decG s)) → u.lt σ.length = true → retV σ.length (fun rr σ' => rr = .t (.bool (decG s)) ∧ σ' = σ) (σ ++ τ) (some [u]) := fun h h2 => ret_same rfl hσ h2 ⟨h, rfl⟩
  have fin0 : ∀ {u : V}, u = .t (.bool (decG s)) → retV σ.length (fun rr σ' => rr = .t (.bool (decG s)) ∧ σ' = σ) σ (some [u]) := fun h => ret_same0 rfl ⟨h, rfl⟩
  by_cases h0 : (s == [] || decide (7 < s.length) || (decide (1 < s.length) && (s[0]?.getD 0 == 48))) = true
  · have hr : decG s = false := by simp only [decG, h0]; rfl
    obtain ⟨hr1, hr2⟩ := dec_no hr
    simp -implicitDefEqProofs only [c_impl_hwIsDecimal, S0, S1, S2, S3, S4, S5, S6, S7, S8, S9, S10, S11, S12, S13, S14, S15, S16, S17, opv, opvs, eget, env0, setD, lenStr, lenSl, isNilP, isNilS, putAt, if_true, if_false, reduceCtorEq, Nat.reduceLeDiff, Nat.reduceEqDiff, Nat.reduceSub, Nat.reduceMul, Nat.reduceAdd]
    match s, h0, hr, hr1, hr2, hs with
    | [], _, hr, hr1, hr2, _ =>
      simp -implicitDefEqProofs only [cond_t, cond_f, S0, S1, S2, S3, S4, S5, S6, S7, S8, S9, S10, S11, S12, S13, S14, S15, S16, S17, opv, opvs, eget, env0, setD, lenStr, lenSl, isNilP, isNilS, putAt, if_true, if_false, reduceCtorEq, Nat.reduceLeDiff, Nat.reduceEqDiff, Nat.reduceSub, Nat.reduceMul, Nat.reduceAdd]
      repeat' (first
    | ((with_reducible refine cond_known (fun h => ?_) (fun h => ?_)) <;> (replace hh := And.intro h hh; clear h; simp -implicitDefEqProofs only [hh, cond_t, cond_f, S0, S1, S2, S3, S4, S5, S6, S7, S8, S9, S10, S11, S12, S13, S14, S15, S16, S17, opv, opvs, eget, env0, setD, lenStr, lenSl, isNilP, isNilS, putAt, if_true, if_false, reduceCtorEq, Nat.reduceLeDiff, Nat.reduceEqDiff, Nat.reduceSub, Nat.reduceMul, Nat.reduceAdd]))
    | ((with_reducible refine call_pure (spec_l1In _ _ _ _) ?_); simp -implicitDefEqProofs only [hh, cond_t, cond_f, S0, S1, S2, S3, S4, S5, S6, S7, S8, S9, S10, S11, S12, S13, S14, S15, S16, S17, opv, opvs, eget, env0, setD, lenStr, lenSl, isNilP, isNilS, putAt, if_true, if_false, reduceCtorEq, Nat.reduceLeDiff, Nat.reduceEqDiff, Nat.reduceSub, Nat.reduceMul, Nat.reduceAdd])
    | (exfalso; simp [Known, wi] at hh; done)
    | (first | ((with_reducible refine fin0 ?_); refine id ?_; (try simp only [Known] at hh); first | (rw [hr]; done) | (exfalso; simp [wi] at hh; done)) | ((with_reducible refine fin ?_ ?_); rotate_left; exact rfl; refine id ?_; (try simp only [Known] at hh); first | (rw [hr]; done) | (exfalso; simp [wi] at hh; done))))
    | c :: s', h0, hr, hr1, hr2, hs =>
      have e1 : (c :: s')[Int.toNat 0]? = some c := rfl
      simp only [List.getElem?_cons_zero, Option.getD_some] at h0
      simp -implicitDefEqProofs only [e1, cond_t, cond_f, Int.le_refl, S0, S1, S2, S3, S4, S5, S6, S7, S8, S9, S10, S11, S12, S13, S14, S15, S16, S17, opv, opvs, eget, env0, setD, lenStr, lenSl, isNilP, isNilS, putAt, if_true, if_false, reduceCtorEq, Nat.reduceLeDiff, Nat.reduceEqDiff, Nat.reduceSub, Nat.reduceMul, Nat.reduceAdd]
      repeat' (first
    | ((with_reducible refine cond_known (fun h => ?_) (fun h => ?_)) <;> (replace hh := And.intro h hh; clear h; simp -implicitDefEqProofs only [hh, cond_t, cond_f, e1, Int.le_refl, Nat.zero_le, S0, S1, S2, S3, S4, S5, S6, S7, S8, S9, S10, S11, S12, S13, S14, S15, S16, S17, opv, opvs, eget, env0, setD, lenStr, lenSl, isNilP, isNilS, putAt, if_true, if_false, reduceCtorEq, Nat.reduceLeDiff, Nat.reduceEqDiff, Nat.reduceSub, Nat.reduceMul, Nat.reduceAdd]))
    | ((with_reducible refine call_pure (spec_l1In _ _ _ _) ?_); simp -implicitDefEqProofs only [hh, cond_t, cond_f, e1, Int.le_refl, Nat.zero_le, S0, S1, S2, S3, S4, S5, S6, S7, S8, S9, S10, S11, S12, S13, S14, S15, S16, S17, opv, opvs, eget, env0, setD, lenStr, lenSl, isNilP, isNilS, putAt, if_true, if_false, reduceCtorEq, Nat.reduceLeDiff, Nat.reduceEqDiff, Nat.reduceSub, Nat.reduceMul, Nat.reduceAdd])
    | (exfalso; simp only [Known] at hh; simp [wi] at hh h0; first | omega | (obtain ⟨h1, h2⟩ := hh; rcases h0 with h0 | h0; omega; obtain ⟨_, rfl⟩ := h0; simp at *; done) | grind)
    | (first | ((with_reducible refine fin0 ?_); refine id ?_; (try simp only [Known] at hh); rw [hr]) | ((with_reducible refine fin ?_ ?_); rotate_left; exact rfl; refine id ?_; (try simp only [Known] at hh); rw [hr])))
  · have n0 : (s == [] || decide (7 < s.length) || (decide (1 < s.length) && (s[0]?.getD 0 == 48))) = false := by simpa using h0
    obtain ⟨c, s', rfl⟩ : ∃ c s', s = c :: s' := by
      cases s with
      | nil => simp at h0
      | cons c s' => exact ⟨c, s', rfl⟩
    generalize hgs : c :: s' = s at *
    have e0 : (s == []) = false := by rw [← hgs]; rfl
    have e1 : s[Int.toNat 0]? = some c := by rw [← hgs]; rfl
    have e2 : s[0]?.getD 0 = c := by rw [← hgs]; rfl
    have e3 : 1 ≤ s.length := by rw [← hgs]; simp
    have n1 := n0
    simp only [e0, e2, Bool.false_or, Bool.or_eq_false_iff, Bool.and_eq_false_iff] at n1
    obtain ⟨n7, n8⟩ := n1
    have hs7 : s.length ≤ 7 := by simpa using n7
    have n7a : decide (((s.length : Nat) : Int) < 1) = false := by simp; omega
    have n7b : decide (((s.length : Nat) : Int) > 7) = false := by simp; omega
    have n7c : wi ((s.length : Nat) : Int) 1 7 = true := by simp [wi]; omega
    simp -implicitDefEqProofs only [c_impl_hwIsDecimal, e1, n7a, n7b, cond_t, cond_f, Int.le_refl, S0, S1, S2, S3, S4, S5, S6, S7, S8, S9, S10, S11, S12, S13, S14, S15, S16, S17, opv, opvs, eget, env0, setD, lenStr, lenSl, isNilP, isNilS, putAt, if_true, if_false, reduceCtorEq, Nat.reduceLeDiff, Nat.reduceEqDiff, Nat.reduceSub, Nat.reduceMul, Nat.reduceAdd]
    try
      refine call_pure (spec_l1In _ _ _ _) ?_
      simp -implicitDefEqProofs only [e1, n7c, cond_t, cond_f, Int.le_refl, S0, S1, S2, S3, S4, S5, S6, S7, S8, S9, S10, S11, S12, S13, S14, S15, S16, S17, opv, opvs, eget, env0, setD, lenStr, lenSl, isNilP, isNilS, putAt, if_true, if_false, reduceCtorEq, Nat.reduceLeDiff, Nat.reduceEqDiff, Nat.reduceSub, Nat.reduceMul, Nat.reduceAdd]
    rcases hl1 : decide (((s.length : Nat) : Int) > 1) with _ | _
    · have n9 : True := trivial
      try simp -implicitDefEqProofs only [hl1, e1, cond_t, cond_f, Int.le_refl, S0, S1, S2, S3, S4, S5, S6, S7, S8, S9, S10, S11, S12, S13, S14, S15, S16, S17, opv, opvs, eget, env0, setD, lenStr, lenSl, isNilP, isNilS, putAt, if_true, if_false, reduceCtorEq, Nat.reduceLeDiff, Nat.reduceEqDiff, Nat.reduceSub, Nat.reduceMul, Nat.reduceAdd]
      rcases h4 : (((c.toNat : Nat) : Int) == 48) with _ | _
      all_goals
        try simp -implicitDefEqProofs only [h4, hl1, e1, cond_t, cond_f, Int.le_refl, S0, S1, S2, S3, S4, S5, S6, S7, S8, S9, S10, S11, S12, S13, S14, S15, S16, S17, opv, opvs, eget, env0, setD, lenStr, lenSl, isNilP, isNilS, putAt, if_true, if_false, reduceCtorEq, Nat.reduceLeDiff, Nat.reduceEqDiff, Nat.reduceSub, Nat.reduceMul, Nat.reduceAdd]
        refine loop_p [24, 0, 23] [0, 23] (fun k : Nat => [(24, .t (.int .i64 (k : Nat)))]) (fun k => k ≤ s.length ∧ (s.take k).all digB = true) (fun k => s.length - k) 0 (by simp) ⟨Nat.zero_le _, rfl⟩ rfl ?_
        rintro k ⟨hk, hall⟩
        simp -implicitDefEqProofs only [keep, S0, S1, S2, S3, S4, S5, S6, S7, S8, S9, S10, S11, S12, S13, S14, S15, S16, S17, opv, opvs, eget, env0, setD, lenStr, lenSl, isNilP, isNilS, putAt, if_true, if_false, reduceCtorEq, Nat.reduceLeDiff, Nat.reduceEqDiff, Nat.reduceSub, Nat.reduceMul, Nat.reduceAdd]
        refine cond_split (fun h1 => ?_) (fun h1 => ?_)
        · obtain ⟨x, hx, hlt⟩ := at_of h1
          have more := i64_succ (show k < 4611686018427387904 by omega)
          have hvb := val_bnd (s := s.take k) (by rw [List.length_take]; omega) hall
          clear h1 hh
          have hh : True := trivial
          rcases hd : digB x with _ | _
          · have hno := all_dig_not hx hd
            have hr : decG s = false := by unfold decG; rw [hno, Bool.and_false]
            have hdn := dig_not hd
            simp -implicitDefEqProofs only [hx, nat_nn, Nat.zero_le, S0, S1, S2, S3, S4, S5, S6, S7, S8, S9, S10, S11, S12, S13, S14, S15, S16, S17, opv, opvs, eget, env0, setD, lenStr, lenSl, isNilP, isNilS, putAt, if_true, if_false, reduceCtorEq, Nat.reduceLeDiff, Nat.reduceEqDiff, Nat.reduceSub, Nat.reduceMul, Nat.reduceAdd]
            repeat' (first
          | ((with_reducible refine cond_known (fun h => ?_) (fun h => ?_)) <;> (replace hh := And.intro h hh; clear h; simp -implicitDefEqProofs only [hh, cond_t, cond_f, hx, nat_nn, Nat.zero_le, S0, S1, S2, S3, S4, S5, S6, S7, S8, S9, S10, S11, S12, S13, S14, S15, S16, S17, opv, opvs, eget, env0, setD, lenStr, lenSl, isNilP, isNilS, putAt, if_true, if_false, reduceCtorEq, Nat.reduceLeDiff, Nat.reduceEqDiff, Nat.reduceSub, Nat.reduceMul, Nat.reduceAdd]))
          | (exfalso; simp only [Known, decide_eq_true_eq, decide_eq_false_iff_not] at hh; omega)
          | (first | ((with_reducible refine fin0 ?_); refine id ?_; (try simp only [Known] at hh); simp only [decide_eq_true_eq, decide_eq_false_iff_not] at hh; first | omega | rw [hr]) | ((with_reducible refine fin ?_ ?_); rotate_left; exact rfl; refine id ?_; (try simp only [Known] at hh); simp only [decide_eq_true_eq, decide_eq_false_iff_not] at hh; first | omega | rw [hr])))
          · obtain ⟨db1, db2⟩ := dig_bnd hd
            have d1 : decide ((x.toNat : Int) < 48) = false := by simp; omega
            have d2 : decide ((x.toNat : Int) > 57) = false := by simp; omega
            simp -implicitDefEqProofs only [hx, nat_nn, Nat.zero_le, d1, d2, digB, more, cond_t, cond_f, S0, S1, S2, S3, S4, S5, S6, S7, S8, S9, S10, S11, S12, S13, S14, S15, S16, S17, opv, opvs, eget, env0, setD, lenStr, lenSl, isNilP, isNilS, putAt, if_true, if_false, reduceCtorEq, Nat.reduceLeDiff, Nat.reduceEqDiff, Nat.reduceSub, Nat.reduceMul, Nat.reduceAdd]
            exact lk_p0 (k + 1) (by simp) (by simp) (by omega) ⟨by omega, by rw [take_of hx, List.all_append, hall]; simp [hd]⟩ rfl
        have hkk := end_of h1 hk
        subst hkk
        rw [List.take_length] at hall
        clear h1 hk
        simp -implicitDefEqProofs only [List.take_length, S0, S1, S2, S3, S4, S5, S6, S7, S8, S9, S10, S11, S12, S13, S14, S15, S16, S17, opv, opvs, eget, env0, setD, lenStr, lenSl, isNilP, isNilS, putAt, if_true, if_false, reduceCtorEq, Nat.reduceLeDiff, Nat.reduceEqDiff, Nat.reduceSub, Nat.reduceMul, Nat.reduceAdd]
        have hr : decG s = true := by unfold decG; rw [n0, hall]; rfl
        obtain ⟨hr1, hr2⟩ := dec_yes hr
        first | exact fin0 (by rw [hr]) | exact fin (by rw [hr]) rfl
    · have n9 : (((c.toNat : Nat) : Int) == 48) = false := by
        have h2 : decide (1 < s.length) = true := by simp at hl1 ⊢; omega
        rw [h2] at n8
        simp at n8 ⊢
        exact fun h => n8 (UInt8.toNat.inj (by have h3 : (c.toNat : Int) = 48 := h; show c.toNat = 48; omega))
      try simp -implicitDefEqProofs only [hl1, e1, n9, cond_t, cond_f, Int.le_refl, S0, S1, S2, S3, S4, S5, S6, S7, S8, S9, S10, S11, S12, S13, S14, S15, S16, S17, opv, opvs, eget, env0, setD, lenStr, lenSl, isNilP, isNilS, putAt, if_true, if_false, reduceCtorEq, Nat.reduceLeDiff, Nat.reduceEqDiff, Nat.reduceSub, Nat.reduceMul, Nat.reduceAdd]
      refine loop_p [24, 0, 23] [0, 23] (fun k : Nat => [(24, .t (.int .i64 (k : Nat)))]) (fun k => k ≤ s.length ∧ (s.take k).all digB = true) (fun k => s.length - k) 0 (by simp) ⟨Nat.zero_le _, rfl⟩ rfl ?_
      rintro k ⟨hk, hall⟩
      simp -implicitDefEqProofs only [keep, S0, S1, S2, S3, S4, S5, S6, S7, S8, S9, S10, S11, S12, S13, S14, S15, S16, S17, opv, opvs, eget, env0, setD, lenStr, lenSl, isNilP, isNilS, putAt, if_true, if_false, reduceCtorEq, Nat.reduceLeDiff, Nat.reduceEqDiff, Nat.reduceSub, Nat.reduceMul, Nat.reduceAdd]
      refine cond_split (fun h1 => ?_) (fun h1 => ?_)
      · obtain ⟨x, hx, hlt⟩ := at_of h1
        have more := i64_succ (show k < 4611686018427387904 by omega)
        have hvb := val_bnd (s := s.take k) (by rw [List.length_take]; omega) hall
        clear h1 hh
        have hh : True := trivial
        rcases hd : digB x with _ | _
        · have hno := all_dig_not hx hd
          have hr : decG s = false := by unfold decG; rw [hno, Bool.and_false]
          have hdn := dig_not hd
          simp -implicitDefEqProofs only [hx, nat_nn, Nat.zero_le, S0, S1, S2, S3, S4, S5, S6, S7, S8, S9, S10, S11, S12, S13, S14, S15, S16, S17, opv, opvs, eget, env0, setD, lenStr, lenSl, isNilP, isNilS, putAt, if_true, if_false, reduceCtorEq, Nat.reduceLeDiff, Nat.reduceEqDiff, Nat.reduceSub, Nat.reduceMul, Nat.reduceAdd]
          repeat' (first
        | ((with_reducible refine cond_known (fun h => ?_) (fun h => ?_)) <;> (replace hh := And.intro h hh; clear h; simp -implicitDefEqProofs only [hh, cond_t, cond_f, hx, nat_nn, Nat.zero_le, S0, S1, S2, S3, S4, S5, S6, S7, S8, S9, S10, S11, S12, S13, S14, S15, S16, S17, opv, opvs, eget, env0, setD, lenStr, lenSl, isNilP, isNilS, putAt, if_true, if_false, reduceCtorEq, Nat.reduceLeDiff, Nat.reduceEqDiff, Nat.reduceSub, Nat.reduceMul, Nat.reduceAdd]))
        | (exfalso; simp only [Known, decide_eq_true_eq, decide_eq_false_iff_not] at hh; omega)
        | (first | ((with_reducible refine fin0 ?_); refine id ?_; (try simp only [Known] at hh); simp only [decide_eq_true_eq, decide_eq_false_iff_not] at hh; first | omega | rw [hr]) | ((with_reducible refine fin ?_ ?_); rotate_left; exact rfl; refine id ?_; (try simp only [Known] at hh); simp only [decide_eq_true_eq, decide_eq_false_iff_not] at hh; first | omega | rw [hr])))
        · obtain ⟨db1, db2⟩ := dig_bnd hd
          have d1 : decide ((x.toNat : Int) < 48) = false := by simp; omega
          have d2 : decide ((x.toNat : Int) > 57) = false := by simp; omega
          simp -implicitDefEqProofs only [hx, nat_nn, Nat.zero_le, d1, d2, digB, more, cond_t, cond_f, S0, S1, S2, S3, S4, S5, S6, S7, S8, S9, S10, S11, S12, S13, S14, S15, S16, S17, opv, opvs, eget, env0, setD, lenStr, lenSl, isNilP, isNilS, putAt, if_true, if_false, reduceCtorEq, Nat.reduceLeDiff, Nat.reduceEqDiff, Nat.reduceSub, Nat.reduceMul, Nat.reduceAdd]
          exact lk_p0 (k + 1) (by simp) (by simp) (by omega) ⟨by omega, by rw [take_of hx, List.all_append, hall]; simp [hd]⟩ rfl
      have hkk := end_of h1 hk
      subst hkk
      rw [List.take_length] at hall
      clear h1 hk
      simp -implicitDefEqProofs only [List.take_length, S0, S1, S2, S3, S4, S5, S6, S7, S8, S9, S10, S11, S12, S13, S14, S15, S16, S17, opv, opvs, eget, env0, setD, lenStr, lenSl, isNilP, isNilS, putAt, if_true, if_false, reduceCtorEq, Nat.reduceLeDiff, Nat.reduceEqDiff, Nat.reduceSub, Nat.reduceMul, Nat.reduceAdd]
      have hr : decG s = true := by unfold decG; rw [n0, hall]; rfl
      obtain ⟨hr1, hr2⟩ := dec_yes hr
      first | exact fin0 (by rw [hr]) | exact fin (by rw [hr]) rfl

end Go.Proofs.YtelpmllnallilaaDoor.W
