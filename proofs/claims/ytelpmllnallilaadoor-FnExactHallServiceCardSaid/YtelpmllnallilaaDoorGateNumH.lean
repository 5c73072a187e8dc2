/- Decimals. Conditions: none. -/
import Derived.Test.YtelpmllnallilaaDoorNamesH
import Derived.Test.YtelpmllnallilaaDoorSheetNum
set_option linter.unusedSimpArgs false
set_option linter.unusedVariables false
set_option linter.defProp false
open Go Go.Ab
set_option maxHeartbeats 2000000
namespace Go.Proofs.YtelpmllnallilaaDoor.W
theorem dig_bnd {c : UInt8} (h : digB c = true) : 48 ≤ c.toNat ∧ c.toNat ≤ 57 := by
  simpa [digB] using h
theorem dig_not {c : UInt8} (h : digB c = false) : c.toNat < 48 ∨ 57 < c.toNat := by
  simp [digB] at h; omega
theorem val_step {s : List UInt8} {k : Nat} {x : UInt8} (h : s[k]? = some x) : valN (s.take (k + 1)) = 10 * valN (s.take k) + (x.toNat - 48) := by
  rw [take_of h, valN_app]
theorem all_dig_not {s : List UInt8} {k : Nat} {x : UInt8} (h : s[k]? = some x) (hd : digB x = false) : s.all digB = false := by
  rw [List.all_eq_false]
  exact ⟨x, List.mem_of_getElem? h, by simp [hd]⟩
theorem val_bnd {s : List UInt8} (hl : s.length ≤ 7) (h : s.all digB = true) : valN s < 10000000 := by
  have h1 := valN_lt s h
  have h2 : 10 ^ s.length ≤ 10 ^ 7 := Nat.pow_le_pow_right (by omega) hl
  omega
def decG (s : List UInt8) : Bool := !(s == [] || decide (7 < s.length) || (decide (1 < s.length) && (s[0]?.getD 0 == 48))) && s.all digB
def numV (s : List UInt8) : Int := if decG s = true then ((valN s : Nat) : Int) else -1
def decV (s : List UInt8) : Int := if decG s = true then ((valN s : Nat) : Int) else 0
theorem dec_no {s : List UInt8} (h : decG s = false) : numV s = -1 ∧ decV s = 0 := by simp [numV, decV, h]
theorem dec_yes {s : List UInt8} (h : decG s = true) : numV s = ((valN s : Nat) : Int) ∧ decV s = ((valN s : Nat) : Int) := by simp [numV, decV, h]
theorem dec_bnd (s : List UInt8) : 0 ≤ decV s ∧ decV s < 10000000 ∧ (numV s = decV s ∨ (numV s = -1 ∧ decV s = 0)) := by
  cases h : decG s with
  | false => obtain ⟨h1, h2⟩ := dec_no h; rw [h1, h2]; simp
  | true =>
    obtain ⟨h1, h2⟩ := dec_yes h
    have : valN s < 10000000 := by
      have h' := h
      simp only [decG, Bool.and_eq_true, Bool.not_eq_true', Bool.or_eq_false_iff] at h'
      obtain ⟨⟨⟨_, h7⟩, _⟩, hd⟩ := h'
      exact val_bnd (by simpa using h7) hd
    rw [h1, h2]; omega
def c_spec_l1Number : C := (.seq (.ops [⟨(some 2), none, (.mv (.c (.t (.int .i64 0))))⟩]) (.seq (.seq (.ops [⟨(some 5), none, (.mv (.t 0))⟩, ⟨(some 6), none, (.len true (.t 5))⟩, ⟨(some 7), none, (.call (.c (.fn (.func 21) [])) [(.t 6), (.c (.t (.int .i64 1))), (.c (.t (.int .i64 7)))])⟩, ⟨(some 8), none, (.un .not (.t 7))⟩, ⟨(some 9), none, (.mv (.t 8))⟩, ⟨(some 10), (some ⟨9, false⟩), (.mv (.t 0))⟩, ⟨(some 11), (some ⟨9, false⟩), (.len true (.t 10))⟩, ⟨(some 12), (some ⟨9, false⟩), (.bin .gtr (.t 11) (.c (.t (.int .i64 1))))⟩, ⟨(some 13), (some ⟨9, false⟩), (.mv (.t 12))⟩, ⟨(some 14), (some ⟨13, true⟩), (.mv (.t 0))⟩, ⟨(some 15), (some ⟨13, true⟩), (.index (.t 14) (.c (.t (.int .i64 0))))⟩, ⟨(some 16), (some ⟨13, true⟩), (.bin .eql (.t 15) (.c (.t (.int .u8 48))))⟩, ⟨(some 17), (some ⟨9, false⟩), (.pick (.t 13) (.t 16) (.c (.t (.bool false))))⟩, ⟨(some 18), none, (.pick (.t 9) (.c (.t (.bool true))) (.t 17))⟩]) (.cond (.t 18) (.seq (.ops [⟨(some 2), none, (.mv (.c (.t (.int .i64 (-1)))))⟩]) .ret) .skip)) (.seq (.ops [⟨(some 3), none, (.mv (.c (.t (.int .i64 0))))⟩]) (.seq (.seq (.ops [⟨(some 4), none, (.mv (.c (.t (.int .i64 0))))⟩]) (.block 0 (.loop (.seq (.seq (.ops [⟨(some 19), none, (.mv (.t 4))⟩, ⟨(some 20), none, (.mv (.t 0))⟩, ⟨(some 21), none, (.len true (.t 20))⟩, ⟨(some 22), none, (.bin .lss (.t 19) (.t 21))⟩]) (.cond (.t 22) .skip (.exit 0))) (.seq (.block 1 (.seq (.seq (.ops [⟨(some 25), none, (.mv (.t 0))⟩, ⟨(some 26), none, (.mv (.t 4))⟩, ⟨(some 27), none, (.index (.t 25) (.t 26))⟩, ⟨(some 28), none, (.bin .lss (.t 27) (.c (.t (.int .u8 48))))⟩, ⟨(some 29), none, (.mv (.t 28))⟩, ⟨(some 30), (some ⟨29, false⟩), (.mv (.t 0))⟩, ⟨(some 31), (some ⟨29, false⟩), (.mv (.t 4))⟩, ⟨(some 32), (some ⟨29, false⟩), (.index (.t 30) (.t 31))⟩, ⟨(some 33), (some ⟨29, false⟩), (.bin .gtr (.t 32) (.c (.t (.int .u8 57))))⟩, ⟨(some 34), none, (.pick (.t 29) (.c (.t (.bool true))) (.t 33))⟩]) (.cond (.t 34) (.seq (.ops [⟨(some 2), none, (.mv (.c (.t (.int .i64 (-1)))))⟩]) .ret) .skip)) (.ops [⟨(some 35), none, (.mv (.t 3))⟩, ⟨(some 36), none, (.bin .mul (.t 35) (.c (.t (.int .i64 10))))⟩, ⟨(some 37), none, (.mv (.t 0))⟩, ⟨(some 38), none, (.mv (.t 4))⟩, ⟨(some 39), none, (.index (.t 37) (.t 38))⟩, ⟨(some 40), none, (.convInt .i64 (.t 39))⟩, ⟨(some 41), none, (.bin .add (.t 36) (.t 40))⟩, ⟨(some 42), none, (.bin .sub (.t 41) (.c (.t (.int .i64 48))))⟩, ⟨(some 3), none, (.mv (.t 42))⟩]))) (.ops [⟨(some 23), none, (.mv (.t 4))⟩, ⟨(some 24), none, (.bin .add (.t 23) (.c (.t (.int .i64 1))))⟩, ⟨(some 4), none, (.mv (.t 24))⟩])))))) (.seq (.ops [⟨(some 43), none, (.mv (.t 3))⟩, ⟨(some 2), none, (.mv (.t 43))⟩]) .ret)))))
theorem k_spec_l1Number : comp Tryd.prog 44 (Tryd.f18.body.getD .skip) = some c_spec_l1Number := by kernel_rfl

theorem spec_l1Number (s : List UInt8) (hs : s.length ≤ 1048576) (σ : Store) : ACalls Tryd.prog 18 [.t (.str (s))] σ fun rr σ' => rr = .t (.int .i64 (numV s)) ∧ σ' = σ := by
  refine acalls_of Tryd.func18 (by decide +kernel) (code := Tryd.f18.body.getD .skip) (n := 44) (c := c_spec_l1Number) (rs := [(.tmp 2)]) rfl rfl k_spec_l1Number (by kernel_rfl) (by simp) (fun hσ => ?_)
  have hh : True := trivial
  have fin : ∀ {u : V} {τ : Store}, u = .t (.int .i64 (numV s)) → u.lt σ.length = true → retV σ.length (fun rr σ' => rr = .t (.int .i64 (numV s)) ∧ σ' = σ) (σ ++ τ) (some [u]) := fun h h2 => ret_same rfl hσ h2 ⟨h, rfl⟩
  have fin0 : ∀ {u : V}, u = .t (.int .i64 (numV s)) → retV σ.length (fun rr σ' => rr = .t (.int .i64 (numV s)) ∧ σ' = σ) σ (some [u]) := fun h => ret_same0 rfl ⟨h, rfl⟩
  by_cases h0 : (s == [] || decide (7 < s.length) || (decide (1 < s.length) && (s[0]?.getD 0 == 48))) = true
  · have hr : decG s = false := by simp only [decG, h0]; rfl
    obtain ⟨hr1, hr2⟩ := dec_no hr
    simp -implicitDefEqProofs only [c_spec_l1Number, S0, S1, S2, S3, S4, S5, S6, S7, S8, S9, S10, S11, S12, S13, S14, S15, S16, S17, opv, opvs, eget, env0, setD, lenStr, lenSl, isNilP, isNilS, putAt, if_true, if_false, reduceCtorEq, Nat.reduceLeDiff, Nat.reduceEqDiff, Nat.reduceSub, Nat.reduceMul, Nat.reduceAdd]
    match s, h0, hr, hr1, hr2, hs with
    | [], _, hr, hr1, hr2, _ =>
      simp -implicitDefEqProofs only [cond_t, cond_f, S0, S1, S2, S3, S4, S5, S6, S7, S8, S9, S10, S11, S12, S13, S14, S15, S16, S17, opv, opvs, eget, env0, setD, lenStr, lenSl, isNilP, isNilS, putAt, if_true, if_false, reduceCtorEq, Nat.reduceLeDiff, Nat.reduceEqDiff, Nat.reduceSub, Nat.reduceMul, Nat.reduceAdd]
      repeat' (first
    | ((with_reducible refine cond_known (fun h => ?_) (fun h => ?_)) <;> (replace hh := And.intro h hh; clear h; simp -implicitDefEqProofs only [hh, cond_t, cond_f, S0, S1, S2, S3, S4, S5, S6, S7, S8, S9, S10, S11, S12, S13, S14, S15, S16, S17, opv, opvs, eget, env0, setD, lenStr, lenSl, isNilP, isNilS, putAt, if_true, if_false, reduceCtorEq, Nat.reduceLeDiff, Nat.reduceEqDiff, Nat.reduceSub, Nat.reduceMul, Nat.reduceAdd]))
    | ((with_reducible refine call_pure (spec_l1In _ _ _ _) ?_); simp -implicitDefEqProofs only [hh, cond_t, cond_f, S0, S1, S2, S3, S4, S5, S6, S7, S8, S9, S10, S11, S12, S13, S14, S15, S16, S17, opv, opvs, eget, env0, setD, lenStr, lenSl, isNilP, isNilS, putAt, if_true, if_false, reduceCtorEq, Nat.reduceLeDiff, Nat.reduceEqDiff, Nat.reduceSub, Nat.reduceMul, Nat.reduceAdd])
    | (exfalso; simp [Known, wi] at hh; done)
    | (first | ((with_reducible refine fin0 ?_); refine id ?_; (try simp only [Known] at hh); first | (rw [hr1]; done) | (exfalso; simp [wi] at hh; done)) | ((with_reducible refine fin ?_ ?_); rotate_left; exact rfl; refine id ?_; (try simp only [Known] at hh); first | (rw [hr1]; done) | (exfalso; simp [wi] at hh; done))))
    | c :: s', h0, hr, hr1, hr2, hs =>
      have e1 : (c :: s')[Int.toNat 0]? = some c := rfl
      simp only [List.getElem?_cons_zero, Option.getD_some] at h0
      simp -implicitDefEqProofs only [e1, cond_t, cond_f, Int.le_refl, S0, S1, S2, S3, S4, S5, S6, S7, S8, S9, S10, S11, S12, S13, S14, S15, S16, S17, opv, opvs, eget, env0, setD, lenStr, lenSl, isNilP, isNilS, putAt, if_true, if_false, reduceCtorEq, Nat.reduceLeDiff, Nat.reduceEqDiff, Nat.reduceSub, Nat.reduceMul, Nat.reduceAdd]
      repeat' (first
    | ((with_reducible refine cond_known (fun h => ?_) (fun h => ?_)) <;> (replace hh := And.intro h hh; clear h; simp -implicitDefEqProofs only [hh, cond_t, cond_f, e1, Int.le_refl, Nat.zero_le, S0, S1, S2, S3, S4, S5, S6, S7, S8, S9, S10, S11, S12, S13, S14, S15, S16, S17, opv, opvs, eget, env0, setD, lenStr, lenSl, isNilP, isNilS, putAt, if_true, if_false, reduceCtorEq, Nat.reduceLeDiff, Nat.reduceEqDiff, Nat.reduceSub, Nat.reduceMul, Nat.reduceAdd]))
    | ((with_reducible refine call_pure (spec_l1In _ _ _ _) ?_); simp -implicitDefEqProofs only [hh, cond_t, cond_f, e1, Int.le_refl, Nat.zero_le, S0, S1, S2, S3, S4, S5, S6, S7, S8, S9, S10, S11, S12, S13, S14, S15, S16, S17, opv, opvs, eget, env0, setD, lenStr, lenSl, isNilP, isNilS, putAt, if_true, if_false, reduceCtorEq, Nat.reduceLeDiff, Nat.reduceEqDiff, Nat.reduceSub, Nat.reduceMul, Nat.reduceAdd])
    | (exfalso; simp only [Known] at hh; simp [wi] at hh h0; first | omega | (obtain ⟨h1, h2⟩ := hh; rcases h0 with h0 | h0; omega; obtain ⟨_, rfl⟩ := h0; simp at *; done) | grind)
    | (first | ((with_reducible refine fin0 ?_); refine id ?_; (try simp only [Known] at hh); rw [hr1]) | ((with_reducible refine fin ?_ ?_); rotate_left; exact rfl; refine id ?_; (try simp only [Known] at hh); rw [hr1])))
  · have n0 : (s == [] || decide (7 < s.length) || (decide (1 < s.length) && (s[0]?.getD 0 == 48))) = false := by simpa using h0
    obtain ⟨c, s', rfl⟩ : ∃ c s', s = c :: s' := by
      cases s with
      | nil => simp at h0
      | cons c s' => exact ⟨c, s', rfl⟩
    generalize hgs : c :: s' = s at *
    have e0 : (s == []) = false := by rw [← hgs]; rfl
    have e1 : s[Int.toNat 0]? = some c := by rw [← hgs]; rfl
    have e2 : s[0]?.getD 0 = c := by rw [← hgs]; rfl
    have e3 : 1 ≤ s.length := by rw [← hgs]; simp
    have n1 := n0
    simp only [e0, e2, Bool.false_or, Bool.or_eq_false_iff, Bool.and_eq_false_iff] at n1
    obtain ⟨n7, n8⟩ := n1
    have hs7 : s.length ≤ 7 := by simpa using n7
    have n7a : decide (((s.length : Nat) : Int) < 1) = false := by simp; omega
    have n7b : decide (((s.length : Nat) : Int) > 7) = false := by simp; omega
    have n7c : wi ((s.length : Nat) : Int) 1 7 = true := by simp [wi]; omega
    simp -implicitDefEqProofs only [c_spec_l1Number, e1, n7a, n7b, cond_t, cond_f, Int.le_refl, S0, S1, S2, S3, S4, S5, S6, S7, S8, S9, S10, S11, S12, S13, S14, S15, S16, S17, opv, opvs, eget, env0, setD, lenStr, lenSl, isNilP, isNilS, putAt, if_true, if_false, reduceCtorEq, Nat.reduceLeDiff, Nat.reduceEqDiff, Nat.reduceSub, Nat.reduceMul, Nat.reduceAdd]
    try
      refine call_pure (spec_l1In _ _ _ _) ?_
      simp -implicitDefEqProofs only [e1, n7c, cond_t, cond_f, Int.le_refl, S0, S1, S2, S3, S4, S5, S6, S7, S8, S9, S10, S11, S12, S13, S14, S15, S16, S17, opv, opvs, eget, env0, setD, lenStr, lenSl, isNilP, isNilS, putAt, if_true, if_false, reduceCtorEq, Nat.reduceLeDiff, Nat.reduceEqDiff, Nat.reduceSub, Nat.reduceMul, Nat.reduceAdd]
    rcases hl1 : decide (((s.length : Nat) : Int) > 1) with _ | _
    · have n9 : True := trivial
      try simp -implicitDefEqProofs only [hl1, e1, cond_t, cond_f, Int.le_refl, S0, S1, S2, S3, S4, S5, S6, S7, S8, S9, S10, S11, S12, S13, S14, S15, S16, S17, opv, opvs, eget, env0, setD, lenStr, lenSl, isNilP, isNilS, putAt, if_true, if_false, reduceCtorEq, Nat.reduceLeDiff, Nat.reduceEqDiff, Nat.reduceSub, Nat.reduceMul, Nat.reduceAdd]
      rcases h4 : (((c.toNat : Nat) : Int) == 48) with _ | _
      all_goals
        try simp -implicitDefEqProofs only [h4, hl1, e1, cond_t, cond_f, Int.le_refl, S0, S1, S2, S3, S4, S5, S6, S7, S8, S9, S10, S11, S12, S13, S14, S15, S16, S17, opv, opvs, eget, env0, setD, lenStr, lenSl, isNilP, isNilS, putAt, if_true, if_false, reduceCtorEq, Nat.reduceLeDiff, Nat.reduceEqDiff, Nat.reduceSub, Nat.reduceMul, Nat.reduceAdd]
        refine loop_p [3, 4, 0] [0] (fun k : Nat => [(3, .t (.int .i64 ((valN (s.take k) : Nat) : Int))), (4, .t (.int .i64 (k : Nat)))]) (fun k => k ≤ s.length ∧ (s.take k).all digB = true) (fun k => s.length - k) 0 (by simp) ⟨Nat.zero_le _, rfl⟩ rfl ?_
        rintro k ⟨hk, hall⟩
        simp -implicitDefEqProofs only [keep, S0, S1, S2, S3, S4, S5, S6, S7, S8, S9, S10, S11, S12, S13, S14, S15, S16, S17, opv, opvs, eget, env0, setD, lenStr, lenSl, isNilP, isNilS, putAt, if_true, if_false, reduceCtorEq, Nat.reduceLeDiff, Nat.reduceEqDiff, Nat.reduceSub, Nat.reduceMul, Nat.reduceAdd]
        refine cond_split (fun h1 => ?_) (fun h1 => ?_)
        · obtain ⟨x, hx, hlt⟩ := at_of h1
          have more := i64_succ (show k < 4611686018427387904 by omega)
          have hvb := val_bnd (s := s.take k) (by rw [List.length_take]; omega) hall
          clear h1 hh
          have hh : True := trivial
          rcases hd : digB x with _ | _
          · have hno := all_dig_not hx hd
            have hr : decG s = false := by unfold decG; rw [hno, Bool.and_false]
            have hdn := dig_not hd
            simp -implicitDefEqProofs only [hx, nat_nn, Nat.zero_le, S0, S1, S2, S3, S4, S5, S6, S7, S8, S9, S10, S11, S12, S13, S14, S15, S16, S17, opv, opvs, eget, env0, setD, lenStr, lenSl, isNilP, isNilS, putAt, if_true, if_false, reduceCtorEq, Nat.reduceLeDiff, Nat.reduceEqDiff, Nat.reduceSub, Nat.reduceMul, Nat.reduceAdd]
            repeat' (first
          | ((with_reducible refine cond_known (fun h => ?_) (fun h => ?_)) <;> (replace hh := And.intro h hh; clear h; simp -implicitDefEqProofs only [hh, cond_t, cond_f, hx, nat_nn, Nat.zero_le, S0, S1, S2, S3, S4, S5, S6, S7, S8, S9, S10, S11, S12, S13, S14, S15, S16, S17, opv, opvs, eget, env0, setD, lenStr, lenSl, isNilP, isNilS, putAt, if_true, if_false, reduceCtorEq, Nat.reduceLeDiff, Nat.reduceEqDiff, Nat.reduceSub, Nat.reduceMul, Nat.reduceAdd]))
          | (exfalso; simp only [Known, decide_eq_true_eq, decide_eq_false_iff_not] at hh; omega)
          | (first | ((with_reducible refine fin0 ?_); refine id ?_; (try simp only [Known] at hh); simp only [decide_eq_true_eq, decide_eq_false_iff_not] at hh; first | omega | rw [(dec_no hr).1]) | ((with_reducible refine fin ?_ ?_); rotate_left; exact rfl; refine id ?_; (try simp only [Known] at hh); simp only [decide_eq_true_eq, decide_eq_false_iff_not] at hh; first | omega | rw [(dec_no hr).1])))
          · obtain ⟨db1, db2⟩ := dig_bnd hd
            have d1 : decide ((x.toNat : Int) < 48) = false := by simp; omega
            have d2 : decide ((x.toNat : Int) > 57) = false := by simp; omega
            have a1 : IntKind.i64.wrap (((valN (s.take k) : Nat) : Int) * 10) = ((10 * valN (s.take k) : Nat) : Int) := by rw [IntWalk.i64_in _ (by omega)]; omega
            have a2 : IntKind.i64.wrap ((x.toNat : Nat) : Int) = ((x.toNat : Nat) : Int) := IntWalk.i64_in _ (by omega)
            have a4 : IntKind.i64.wrap (((10 * valN (s.take k) : Nat) : Int) + ((x.toNat : Nat) : Int)) = ((10 * valN (s.take k) + x.toNat : Nat) : Int) := by rw [IntWalk.i64_in _ (by omega)]; omega
            have a3 : IntKind.i64.wrap (((10 * valN (s.take k) + x.toNat : Nat) : Int) - 48) = ((valN (s.take (k + 1)) : Nat) : Int) := by rw [val_step hx, IntWalk.i64_in _ (by omega)]; omega
            simp -implicitDefEqProofs only [hx, nat_nn, Nat.zero_le, d1, d2, a1, a2, a3, a4, more, cond_t, cond_f, S0, S1, S2, S3, S4, S5, S6, S7, S8, S9, S10, S11, S12, S13, S14, S15, S16, S17, opv, opvs, eget, env0, setD, lenStr, lenSl, isNilP, isNilS, putAt, if_true, if_false, reduceCtorEq, Nat.reduceLeDiff, Nat.reduceEqDiff, Nat.reduceSub, Nat.reduceMul, Nat.reduceAdd]
            exact lk_p0 (k + 1) (by simp) (by simp) (by omega) ⟨by omega, by rw [take_of hx, List.all_append, hall]; simp [hd]⟩ rfl
        have hkk := end_of h1 hk
        subst hkk
        rw [List.take_length] at hall
        clear h1 hk
        simp -implicitDefEqProofs only [List.take_length, S0, S1, S2, S3, S4, S5, S6, S7, S8, S9, S10, S11, S12, S13, S14, S15, S16, S17, opv, opvs, eget, env0, setD, lenStr, lenSl, isNilP, isNilS, putAt, if_true, if_false, reduceCtorEq, Nat.reduceLeDiff, Nat.reduceEqDiff, Nat.reduceSub, Nat.reduceMul, Nat.reduceAdd]
        have hr : decG s = true := by unfold decG; rw [n0, hall]; rfl
        obtain ⟨hr1, hr2⟩ := dec_yes hr
        first | exact fin0 (by rw [hr1]) | exact fin (by rw [hr1]) rfl
    · have n9 : (((c.toNat : Nat) : Int) == 48) = false := by
        have h2 : decide (1 < s.length) = true := by simp at hl1 ⊢; omega
        rw [h2] at n8
        simp at n8 ⊢
        exact fun h => n8 (UInt8.toNat.inj (by have h3 : (c.toNat : Int) = 48 := h; show c.toNat = 48; omega))
      try simp -implicitDefEqProofs only [hl1, e1, n9, cond_t, cond_f, Int.le_refl, S0, S1, S2, S3, S4, S5, S6, S7, S8, S9, S10, S11, S12, S13, S14, S15, S16, S17, opv, opvs, eget, env0, setD, lenStr, lenSl, isNilP, isNilS, putAt, if_true, if_false, reduceCtorEq, Nat.reduceLeDiff, Nat.reduceEqDiff, Nat.reduceSub, Nat.reduceMul, Nat.reduceAdd]
      refine loop_p [3, 4, 0] [0] (fun k : Nat => [(3, .t (.int .i64 ((valN (s.take k) : Nat) : Int))), (4, .t (.int .i64 (k : Nat)))]) (fun k => k ≤ s.length ∧ (s.take k).all digB = true) (fun k => s.length - k) 0 (by simp) ⟨Nat.zero_le _, rfl⟩ rfl ?_
      rintro k ⟨hk, hall⟩
      simp -implicitDefEqProofs only [keep, S0, S1, S2, S3, S4, S5, S6, S7, S8, S9, S10, S11, S12, S13, S14, S15, S16, S17, opv, opvs, eget, env0, setD, lenStr, lenSl, isNilP, isNilS, putAt, if_true, if_false, reduceCtorEq, Nat.reduceLeDiff, Nat.reduceEqDiff, Nat.reduceSub, Nat.reduceMul, Nat.reduceAdd]
      refine cond_split (fun h1 => ?_) (fun h1 => ?_)
      · obtain ⟨x, hx, hlt⟩ := at_of h1
        have more := i64_succ (show k < 4611686018427387904 by omega)
        have hvb := val_bnd (s := s.take k) (by rw [List.length_take]; omega) hall
        clear h1 hh
        have hh : True := trivial
        rcases hd : digB x with _ | _
        · have hno := all_dig_not hx hd
          have hr : decG s = false := by unfold decG; rw [hno, Bool.and_false]
          have hdn := dig_not hd
          simp -implicitDefEqProofs only [hx, nat_nn, Nat.zero_le, S0, S1, S2, S3, S4, S5, S6, S7, S8, S9, S10, S11, S12, S13, S14, S15, S16, S17, opv, opvs, eget, env0, setD, lenStr, lenSl, isNilP, isNilS, putAt, if_true, if_false, reduceCtorEq, Nat.reduceLeDiff, Nat.reduceEqDiff, Nat.reduceSub, Nat.reduceMul, Nat.reduceAdd]
          repeat' (first
        | ((with_reducible refine cond_known (fun h => ?_) (fun h => ?_)) <;> (replace hh := And.intro h hh; clear h; simp -implicitDefEqProofs only [hh, cond_t, cond_f, hx, nat_nn, Nat.zero_le, S0, S1, S2, S3, S4, S5, S6, S7, S8, S9, S10, S11, S12, S13, S14, S15, S16, S17, opv, opvs, eget, env0, setD, lenStr, lenSl, isNilP, isNilS, putAt, if_true, if_false, reduceCtorEq, Nat.reduceLeDiff, Nat.reduceEqDiff, Nat.reduceSub, Nat.reduceMul, Nat.reduceAdd]))
        | (exfalso; simp only [Known, decide_eq_true_eq, decide_eq_false_iff_not] at hh; omega)
        | (first | ((with_reducible refine fin0 ?_); refine id ?_; (try simp only [Known] at hh); simp only [decide_eq_true_eq, decide_eq_false_iff_not] at hh; first | omega | rw [(dec_no hr).1]) | ((with_reducible refine fin ?_ ?_); rotate_left; exact rfl; refine id ?_; (try simp only [Known] at hh); simp only [decide_eq_true_eq, decide_eq_false_iff_not] at hh; first | omega | rw [(dec_no hr).1])))
        · obtain ⟨db1, db2⟩ := dig_bnd hd
          have d1 : decide ((x.toNat : Int) < 48) = false := by simp; omega
          have d2 : decide ((x.toNat : Int) > 57) = false := by simp; omega
          have a1 : IntKind.i64.wrap (((valN (s.take k) : Nat) : Int) * 10) = ((10 * valN (s.take k) : Nat) : Int) := by rw [IntWalk.i64_in _ (by omega)]; omega
          have a2 : IntKind.i64.wrap ((x.toNat : Nat) : Int) = ((x.toNat : Nat) : Int) := IntWalk.i64_in _ (by omega)
          have a4 : IntKind.i64.wrap (((10 * valN (s.take k) : Nat) : Int) + ((x.toNat : Nat) : Int)) = ((10 * valN (s.take k) + x.toNat : Nat) : Int) := by rw [IntWalk.i64_in _ (by omega)]; omega
          have a3 : IntKind.i64.wrap (((10 * valN (s.take k) + x.toNat : Nat) : Int) - 48) = ((valN (s.take (k + 1)) : Nat) : Int) := by rw [val_step hx, IntWalk.i64_in _ (by omega)]; omega
          simp -implicitDefEqProofs only [hx, nat_nn, Nat.zero_le, d1, d2, a1, a2, a3, a4, more, cond_t, cond_f, S0, S1, S2, S3, S4, S5, S6, S7, S8, S9, S10, S11, S12, S13, S14, S15, S16, S17, opv, opvs, eget, env0, setD, lenStr, lenSl, isNilP, isNilS, putAt, if_true, if_false, reduceCtorEq, Nat.reduceLeDiff, Nat.reduceEqDiff, Nat.reduceSub, Nat.reduceMul, Nat.reduceAdd]
          exact lk_p0 (k + 1) (by simp) (by simp) (by omega) ⟨by omega, by rw [take_of hx, List.all_append, hall]; simp [hd]⟩ rfl
      have hkk := end_of h1 hk
      subst hkk
      rw [List.take_length] at hall
      clear h1 hk
      simp -implicitDefEqProofs only [List.take_length, S0, S1, S2, S3, S4, S5, S6, S7, S8, S9, S10, S11, S12, S13, S14, S15, S16, S17, opv, opvs, eget, env0, setD, lenStr, lenSl, isNilP, isNilS, putAt, if_true, if_false, reduceCtorEq, Nat.reduceLeDiff, Nat.reduceEqDiff, Nat.reduceSub, Nat.reduceMul, Nat.reduceAdd]
      have hr : decG s = true := by unfold decG; rw [n0, hall]; rfl
      obtain ⟨hr1, hr2⟩ := dec_yes hr
      first | exact fin0 (by rw [hr1]) | exact fin (by rw [hr1]) rfl

end Go.Proofs.YtelpmllnallilaaDoor.W
