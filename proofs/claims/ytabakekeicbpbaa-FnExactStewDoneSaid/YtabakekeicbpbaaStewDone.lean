/- StewDone of the reference and of the program. Conditions: none. -/
import Derived.Test.YtabakekeicbpbaaStewRankI
set_option linter.unusedSimpArgs false
set_option linter.unusedVariables false
set_option linter.defProp false
open Go Go.Ab
set_option maxHeartbeats 2000000
namespace Go.Proofs.Ytabakekeicbpbaa.W
def zRow (r : List T) : Bool := match r with
  | [.int .i64 n] => n == 0
  | _ => false
def demP (s : StewService) : Bool := !(decide (s.Per > 0) && (!(s.Want == demS s) || !(s.Cool == 0)))
def doneB (b : StewBook) : Bool := stewValid b && (rankR b).all zRow && b.Services.all demP
theorem rank_row {b : StewBook} {k : Nat} {r : List T} (h : (rankR b)[k]? = some r) : ∃ n, r = [.int .i64 n] := by
  have hm := List.mem_of_getElem? h
  unfold rankR at hm
  split at hm <;> simp only [rk5, List.mem_cons, List.not_mem_nil, or_false] at hm <;> rcases hm with h | h | h | h | h <;> exact ⟨_, h⟩
theorem rank_len (b : StewBook) : (rankR b).length = 5 := by
  unfold rankR
  split <;> rfl
def c_spec_StewDone : C := (.seq (.ops [⟨(some 1), none, (.box (.t 0))⟩, ⟨(some 2), none, (.mv (.c (.t (.bool false))))⟩]) (.seq (.seq (.ops [⟨(some 7), none, (.load (some 4) (.t 1))⟩, ⟨(some 8), none, (.call (.c (.fn (.func 11) [])) [(.t 7)])⟩, ⟨(some 9), none, (.un .not (.t 8))⟩]) (.cond (.t 9) (.seq (.ops [⟨(some 2), none, (.mv (.c (.t (.bool false))))⟩]) .ret) .skip)) (.seq (.ops [⟨(some 10), none, (.load (some 4) (.t 1))⟩, ⟨(some 11), none, (.call (.c (.fn (.func 27) [])) [(.t 10)])⟩, ⟨(some 3), none, (.mv (.t 11))⟩]) (.seq (.seq (.ops [⟨(some 4), none, (.mv (.c (.t (.int .i64 0))))⟩]) (.block 0 (.loop (.seq (.seq (.ops [⟨(some 12), none, (.mv (.t 4))⟩, ⟨(some 13), none, (.mv (.t 3))⟩, ⟨(some 14), none, (.len false (.t 13))⟩, ⟨(some 15), none, (.bin .lss (.t 12) (.t 14))⟩]) (.cond (.t 15) .skip (.exit 0))) (.seq (.block 1 (.seq (.ops [⟨(some 18), none, (.mv (.t 3))⟩, ⟨(some 19), none, (.mv (.t 4))⟩, ⟨(some 20), none, (.indexAddr 1 (.t 18) (.t 19))⟩, ⟨(some 21), none, (.load none (.t 20))⟩, ⟨(some 22), none, (.bin .neq (.t 21) (.c (.t (.int .i64 0))))⟩]) (.cond (.t 22) (.seq (.ops [⟨(some 2), none, (.mv (.c (.t (.bool false))))⟩]) .ret) .skip))) (.ops [⟨(some 16), none, (.mv (.t 4))⟩, ⟨(some 17), none, (.bin .add (.t 16) (.c (.t (.int .i64 1))))⟩, ⟨(some 4), none, (.mv (.t 17))⟩])))))) (.seq (.seq (.ops [⟨(some 5), none, (.mv (.c (.t (.int .i64 0))))⟩]) (.block 2 (.loop (.seq (.seq (.ops [⟨(some 23), none, (.mv (.t 5))⟩, ⟨(some 24), none, (.fieldAddr 1 (.t 1))⟩, ⟨(some 25), none, (.load none (.t 24))⟩, ⟨(some 26), none, (.len false (.t 25))⟩, ⟨(some 27), none, (.bin .lss (.t 23) (.t 26))⟩]) (.cond (.t 27) .skip (.exit 2))) (.seq (.block 3 (.seq (.ops [⟨(some 30), none, (.fieldAddr 1 (.t 1))⟩, ⟨(some 31), none, (.load none (.t 30))⟩, ⟨(some 32), none, (.mv (.t 5))⟩, ⟨(some 33), none, (.indexAddr 13 (.t 31) (.t 32))⟩, ⟨(some 34), none, (.load (some 13) (.t 33))⟩, ⟨(some 6), none, (.new [(.t (.str [])), (.t (.int .i64 0)), (.t (.bool false)), (.t (.int .i64 0)), (.t (.int .i64 0)), (.t (.int .i64 0)), (.t (.int .i64 0)), (.t (.int .i64 0)), (.t (.int .i64 0)), (.t (.int .i64 0)), (.t (.int .i64 0)), (.t (.int .i64 0)), (.t (.int .i64 0))])⟩, ⟨none, none, (.store 13 (.t 6) (.t 34))⟩]) (.seq (.drawn [(.mk 0 false ⟨(some 35), none, (.fieldAddr 8 (.t 6))⟩), (.mk 1 false ⟨(some 36), none, (.load none (.t 35))⟩), (.mk 2 false ⟨(some 37), none, (.bin .gtr (.t 36) (.c (.t (.int .i64 0))))⟩), (.mk 3 false ⟨(some 38), none, (.mv (.t 37))⟩), (.mk 4 false ⟨(some 39), (some ⟨38, true⟩), (.fieldAddr 4 (.t 6))⟩), (.mk 5 false ⟨(some 40), (some ⟨38, true⟩), (.load none (.t 39))⟩), (.mk 6 false ⟨(some 41), (some ⟨38, true⟩), (.load (some 13) (.t 6))⟩), (.mk 7 true ⟨(some 42), (some ⟨38, true⟩), (.call (.c (.fn (.func 62) [])) [(.t 41)])⟩), (.mk 8 false ⟨(some 43), (some ⟨38, true⟩), (.bin .neq (.t 40) (.t 42))⟩), (.mk 9 false ⟨(some 44), (some ⟨38, true⟩), (.mv (.t 43))⟩), (.mk 10 false ⟨(some 45), (some ⟨44, false⟩), (.fieldAddr 12 (.t 6))⟩), (.mk 11 false ⟨(some 46), (some ⟨44, false⟩), (.load none (.t 45))⟩), (.mk 12 false ⟨(some 47), (some ⟨44, false⟩), (.bin .neq (.t 46) (.c (.t (.int .i64 0))))⟩), (.mk 13 false ⟨(some 48), (some ⟨38, true⟩), (.pick (.t 44) (.c (.t (.bool true))) (.t 47))⟩), (.mk 14 false ⟨(some 49), none, (.pick (.t 38) (.t 48) (.c (.t (.bool false))))⟩)]) (.cond (.t 49) (.seq (.ops [⟨(some 2), none, (.mv (.c (.t (.bool false))))⟩]) .ret) .skip)))) (.ops [⟨(some 28), none, (.mv (.t 5))⟩, ⟨(some 29), none, (.bin .add (.t 28) (.c (.t (.int .i64 1))))⟩, ⟨(some 5), none, (.mv (.t 29))⟩])))))) (.seq (.ops [⟨(some 2), none, (.mv (.c (.t (.bool true))))⟩]) .ret))))))
theorem k_spec_StewDone : comp Try.prog 50 (Try.f25.body.getD .skip) = some c_spec_StewDone := by kernel_rfl

theorem spec_StewDone (b : StewBook) (hb : b.Ok)  (σ : Store) : ACalls Try.prog 25 [.agg (b.vs)] σ fun rr σ' => rr = .t (.bool (doneB b)) ∧ σ' = σ := by
  refine acalls_of Try.func25 (by decide +kernel) (code := Try.f25.body.getD .skip) (n := 50) (c := c_spec_StewDone) (rs := [(.tmp 2)]) rfl rfl k_spec_StewDone (by kernel_rfl) (by simp) (fun hσ => ?_)
  have hh : True := trivial
  have fin : ∀ {u : V} {τ : Store}, u = .t (.bool (doneB b)) → u.lt σ.length = true → retV σ.length (fun rr σ' => rr = .t (.bool (doneB b)) ∧ σ' = σ) (σ ++ τ) (some [u]) := fun h h2 => ret_same rfl hσ h2 ⟨h, rfl⟩
  have fin0 : ∀ {u : V}, u = .t (.bool (doneB b)) → retV σ.length (fun rr σ' => rr = .t (.bool (doneB b)) ∧ σ' = σ) σ (some [u]) := fun h => ret_same0 rfl ⟨h, rfl⟩
  have y1 := hb.Services.1
  have y5 := rank_len b
  simp -implicitDefEqProofs only [c_spec_StewDone, StewBook.vs, S0, S1, S2, S3, S4, S5, S6, S7, S8, S9, S10, S11, S12, S13, S14, S15, S16, opv, opvs, eget, env0, setD, lenStr, lenSl, isNilP, isNilS, putAt, if_true, if_false, reduceCtorEq, Nat.reduceLeDiff, Nat.reduceEqDiff, Nat.reduceSub, Nat.reduceMul, Nat.reduceAdd]
  refine call_pure (spec_StewValid b hb _) ?_
  rcases hv : stewValid b with _ | _
  · simp -implicitDefEqProofs only [cond_t, cond_f, Bool.not_false, S0, S1, S2, S3, S4, S5, S6, S7, S8, S9, S10, S11, S12, S13, S14, S15, S16, opv, opvs, eget, env0, setD, lenStr, lenSl, isNilP, isNilS, putAt, if_true, if_false, reduceCtorEq, Nat.reduceLeDiff, Nat.reduceEqDiff, Nat.reduceSub, Nat.reduceMul, Nat.reduceAdd]
    exact ret_same rfl hσ rfl ⟨by rw [doneB, hv]; rfl, rfl⟩
  simp -implicitDefEqProofs only [cond_t, cond_f, Bool.not_true, S0, S1, S2, S3, S4, S5, S6, S7, S8, S9, S10, S11, S12, S13, S14, S15, S16, opv, opvs, eget, env0, setD, lenStr, lenSl, isNilP, isNilS, putAt, if_true, if_false, reduceCtorEq, Nat.reduceLeDiff, Nat.reduceEqDiff, Nat.reduceSub, Nat.reduceMul, Nat.reduceAdd]
  have hd : doneB b = ((rankR b).all zRow && b.Services.all demP) := by rw [doneB, hv, Bool.true_and]
  refine call_pure (specF_StewRank b hb _) ?_
  simp -implicitDefEqProofs only [resT_StewRank, List.length_map, S0, S1, S2, S3, S4, S5, S6, S7, S8, S9, S10, S11, S12, S13, S14, S15, S16, opv, opvs, eget, env0, setD, lenStr, lenSl, isNilP, isNilS, putAt, if_true, if_false, reduceCtorEq, Nat.reduceLeDiff, Nat.reduceEqDiff, Nat.reduceSub, Nat.reduceMul, Nat.reduceAdd]
  refine loop_p [4, 1, 3] [1, 3] (fun k : Nat => [(4, .t (.int .i64 (k : Nat)))]) (fun k => k ≤ (rankR b).length ∧ ((rankR b).take k).all zRow = true) (fun k => (rankR b).length - k) 0 (by simp) ⟨Nat.zero_le _, rfl⟩ rfl ?_
  rintro k ⟨hk, hall⟩
  simp -implicitDefEqProofs only [keep, List.length_map, S0, S1, S2, S3, S4, S5, S6, S7, S8, S9, S10, S11, S12, S13, S14, S15, S16, opv, opvs, eget, env0, setD, lenStr, lenSl, isNilP, isNilS, putAt, if_true, if_false, reduceCtorEq, Nat.reduceLeDiff, Nat.reduceEqDiff, Nat.reduceSub, Nat.reduceMul, Nat.reduceAdd]
  refine cond_split (fun h1 => ?_) (fun h1 => ?_)
  · obtain ⟨x, hx, hlt⟩ := at_of h1
    obtain ⟨n, rfl⟩ := rank_row hx
    have more := i64_succ (show k < 4611686018427387904 by omega)
    simp -implicitDefEqProofs only [hx, nat_nn, Nat.zero_le, more, S0, S1, S2, S3, S4, S5, S6, S7, S8, S9, S10, S11, S12, S13, S14, S15, S16, opv, opvs, eget, env0, setD, lenStr, lenSl, isNilP, isNilS, putAt, if_true, if_false, reduceCtorEq, Nat.reduceLeDiff, Nat.reduceEqDiff, Nat.reduceSub, Nat.reduceMul, Nat.reduceAdd]
    refine cond_split (fun g1 => ?_) (fun g1 => ?_)
    · have hno := all_not (p := zRow) hx (by simp only [zRow]; simpa using g1)
      simp -implicitDefEqProofs only [S0, S1, S2, S3, S4, S5, S6, S7, S8, S9, S10, S11, S12, S13, S14, S15, S16, opv, opvs, eget, env0, setD, lenStr, lenSl, isNilP, isNilS, putAt, if_true, if_false, reduceCtorEq, Nat.reduceLeDiff, Nat.reduceEqDiff, Nat.reduceSub, Nat.reduceMul, Nat.reduceAdd]
      first | exact fin0 (by rw [hd, hno]; rfl) | exact fin (by rw [hd, hno]; rfl) rfl
    · have hy : zRow [.int .i64 n] = true := by simp only [zRow]; simpa using g1
      simp -implicitDefEqProofs only [more, S0, S1, S2, S3, S4, S5, S6, S7, S8, S9, S10, S11, S12, S13, S14, S15, S16, opv, opvs, eget, env0, setD, lenStr, lenSl, isNilP, isNilS, putAt, if_true, if_false, reduceCtorEq, Nat.reduceLeDiff, Nat.reduceEqDiff, Nat.reduceSub, Nat.reduceMul, Nat.reduceAdd]
      first | exact lk_p0 (k + 1) (by simp) (by simp) (by omega) ⟨by omega, all_step hx hall hy⟩ rfl | exact lk_p (k + 1) (by simp) (by simp) hσ rfl (by omega) ⟨by omega, all_step hx hall hy⟩ (by simp [ltE, keep, eget, V.lt]) rfl | exact lk_pm (k + 1) (Nat.le_refl _) (by simp) hσ rfl rfl (by omega) ⟨by omega, all_step hx hall hy⟩ (by simp [ltE, keep, eget, V.lt]) rfl
  replace hall := all_len hall (end_of h1 hk)
  clear h1 hk
  simp -implicitDefEqProofs only [List.length_map, S0, S1, S2, S3, S4, S5, S6, S7, S8, S9, S10, S11, S12, S13, S14, S15, S16, opv, opvs, eget, env0, setD, lenStr, lenSl, isNilP, isNilS, putAt, if_true, if_false, reduceCtorEq, Nat.reduceLeDiff, Nat.reduceEqDiff, Nat.reduceSub, Nat.reduceMul, Nat.reduceAdd]
  refine loop_p [5, 1] [1] (fun k : Nat => [(5, .t (.int .i64 (k : Nat)))]) (fun k => k ≤ b.Services.length ∧ (b.Services.take k).all demP = true) (fun k => b.Services.length - k) 0 (by simp) ⟨Nat.zero_le _, rfl⟩ rfl ?_
  rintro k ⟨hk, hall2⟩
  simp -implicitDefEqProofs only [keep, List.length_map, S0, S1, S2, S3, S4, S5, S6, S7, S8, S9, S10, S11, S12, S13, S14, S15, S16, opv, opvs, eget, env0, setD, lenStr, lenSl, isNilP, isNilS, putAt, if_true, if_false, reduceCtorEq, Nat.reduceLeDiff, Nat.reduceEqDiff, Nat.reduceSub, Nat.reduceMul, Nat.reduceAdd]
  refine cond_split (fun h1 => ?_) (fun h1 => ?_)
  · obtain ⟨x, hx, hlt⟩ := at_of h1
    have more := i64_succ (show k < 4611686018427387904 by omega)
    clear h1 hh
    have hh : True := trivial
    simp -implicitDefEqProofs only [hx, nat_nn, Nat.zero_le, List.getElem?_map, Option.map_some, StewService.ts, more, S0, S1, S2, S3, S4, S5, S6, S7, S8, S9, S10, S11, S12, S13, S14, S15, S16, opv, opvs, eget, env0, setD, lenStr, lenSl, isNilP, isNilS, putAt, if_true, if_false, reduceCtorEq, Nat.reduceLeDiff, Nat.reduceEqDiff, Nat.reduceSub, Nat.reduceMul, Nat.reduceAdd]
    refine cond_known (fun h => ?_) (fun h => ?_)
    · have hp : x.Per ≠ 0 := by
        have : decide (x.Per > 0) = true := h
        simp only [decide_eq_true_eq] at this
        omega
      have hc := spec_l16Desired x hp
      rw [StewService.vs] at hc
      replace hh := And.intro h hh; clear h
      simp -implicitDefEqProofs only [hh, cond_t, cond_f, hx, nat_nn, Nat.zero_le, List.getElem?_map, Option.map_some, StewService.ts, more, S0, S1, S2, S3, S4, S5, S6, S7, S8, S9, S10, S11, S12, S13, S14, S15, S16, opv, opvs, eget, env0, setD, lenStr, lenSl, isNilP, isNilS, putAt, if_true, if_false, reduceCtorEq, Nat.reduceLeDiff, Nat.reduceEqDiff, Nat.reduceSub, Nat.reduceMul, Nat.reduceAdd]
      repeat' (first
    | ((with_reducible refine cond_known (fun h => ?_) (fun h => ?_)) <;> (replace hh := And.intro h hh; clear h; simp -implicitDefEqProofs only [hh, cond_t, cond_f, hx, nat_nn, Nat.zero_le, List.getElem?_map, Option.map_some, StewService.ts, more, S0, S1, S2, S3, S4, S5, S6, S7, S8, S9, S10, S11, S12, S13, S14, S15, S16, opv, opvs, eget, env0, setD, lenStr, lenSl, isNilP, isNilS, putAt, if_true, if_false, reduceCtorEq, Nat.reduceLeDiff, Nat.reduceEqDiff, Nat.reduceSub, Nat.reduceMul, Nat.reduceAdd]))
    | ((with_reducible refine call_pure (hc _) ?_); simp -implicitDefEqProofs only [hh, cond_t, cond_f, hx, nat_nn, Nat.zero_le, List.getElem?_map, Option.map_some, StewService.ts, more, S0, S1, S2, S3, S4, S5, S6, S7, S8, S9, S10, S11, S12, S13, S14, S15, S16, opv, opvs, eget, env0, setD, lenStr, lenSl, isNilP, isNilS, putAt, if_true, if_false, reduceCtorEq, Nat.reduceLeDiff, Nat.reduceEqDiff, Nat.reduceSub, Nat.reduceMul, Nat.reduceAdd])
    | (first | ((with_reducible refine fin0 ?_); refine tb ?_; (try simp only [Known] at hh); have hno := all_not (p := demP) hx (by grind [demP]); rw [hd, hno]; grind) | ((with_reducible refine fin ?_ ?_); rotate_left; exact rfl; refine tb ?_; (try simp only [Known] at hh); have hno := all_not (p := demP) hx (by grind [demP]); rw [hd, hno]; grind) | (refine lk_p0 (k + 1) (by simp) (by simp) (by omega) ⟨by omega, all_step hx hall2 ?_⟩ rfl; (try simp only [Known] at hh); grind [demP]) | (refine lk_p (k + 1) (by simp) (by simp) hσ rfl (by omega) ⟨by omega, all_step hx hall2 ?_⟩ rfl rfl; (try simp only [Known] at hh); grind [demP]) | (refine lk_pm (k + 1) (Nat.le_refl _) (by simp) hσ rfl rfl (by omega) ⟨by omega, all_step hx hall2 ?_⟩ (by simp [ltE, keep, eget, V.lt]) rfl; (try simp only [Known] at hh); grind [demP])))
    · replace hh := And.intro h hh; clear h
      simp -implicitDefEqProofs only [hh, cond_t, cond_f, hx, nat_nn, Nat.zero_le, List.getElem?_map, Option.map_some, StewService.ts, more, S0, S1, S2, S3, S4, S5, S6, S7, S8, S9, S10, S11, S12, S13, S14, S15, S16, opv, opvs, eget, env0, setD, lenStr, lenSl, isNilP, isNilS, putAt, if_true, if_false, reduceCtorEq, Nat.reduceLeDiff, Nat.reduceEqDiff, Nat.reduceSub, Nat.reduceMul, Nat.reduceAdd]
      repeat' (first
    | ((with_reducible refine cond_known (fun h => ?_) (fun h => ?_)) <;> (replace hh := And.intro h hh; clear h; simp -implicitDefEqProofs only [hh, cond_t, cond_f, hx, nat_nn, Nat.zero_le, List.getElem?_map, Option.map_some, StewService.ts, more, S0, S1, S2, S3, S4, S5, S6, S7, S8, S9, S10, S11, S12, S13, S14, S15, S16, opv, opvs, eget, env0, setD, lenStr, lenSl, isNilP, isNilS, putAt, if_true, if_false, reduceCtorEq, Nat.reduceLeDiff, Nat.reduceEqDiff, Nat.reduceSub, Nat.reduceMul, Nat.reduceAdd]))
    | (first | ((with_reducible refine fin0 ?_); refine tb ?_; (try simp only [Known] at hh); have hno := all_not (p := demP) hx (by grind [demP]); rw [hd, hno]; grind) | ((with_reducible refine fin ?_ ?_); rotate_left; exact rfl; refine tb ?_; (try simp only [Known] at hh); have hno := all_not (p := demP) hx (by grind [demP]); rw [hd, hno]; grind) | (refine lk_p0 (k + 1) (by simp) (by simp) (by omega) ⟨by omega, all_step hx hall2 ?_⟩ rfl; (try simp only [Known] at hh); grind [demP]) | (refine lk_p (k + 1) (by simp) (by simp) hσ rfl (by omega) ⟨by omega, all_step hx hall2 ?_⟩ rfl rfl; (try simp only [Known] at hh); grind [demP]) | (refine lk_pm (k + 1) (Nat.le_refl _) (by simp) hσ rfl rfl (by omega) ⟨by omega, all_step hx hall2 ?_⟩ (by simp [ltE, keep, eget, V.lt]) rfl; (try simp only [Known] at hh); grind [demP])))
  replace hall2 := all_len hall2 (end_of h1 hk)
  clear h1 hk
  simp -implicitDefEqProofs only [S0, S1, S2, S3, S4, S5, S6, S7, S8, S9, S10, S11, S12, S13, S14, S15, S16, opv, opvs, eget, env0, setD, lenStr, lenSl, isNilP, isNilS, putAt, if_true, if_false, reduceCtorEq, Nat.reduceLeDiff, Nat.reduceEqDiff, Nat.reduceSub, Nat.reduceMul, Nat.reduceAdd]
  first | exact fin0 (by rw [hd, hall, hall2]; rfl) | exact fin (by rw [hd, hall, hall2]; rfl) rfl

def c_impl_StewDone : C := (.seq (.ops [⟨(some 1), none, (.box (.t 0))⟩, ⟨(some 2), none, (.mv (.c (.t (.bool false))))⟩]) (.seq (.seq (.ops [⟨(some 7), none, (.load (some 4) (.t 1))⟩, ⟨(some 8), none, (.call (.c (.fn (.func 13) [])) [(.t 7)])⟩, ⟨(some 9), none, (.un .not (.t 8))⟩]) (.cond (.t 9) (.seq (.ops [⟨(some 2), none, (.mv (.c (.t (.bool false))))⟩]) .ret) .skip)) (.seq (.seq (.ops [⟨(some 10), none, (.load (some 4) (.t 1))⟩, ⟨(some 11), none, (.call (.c (.fn (.func 28) [])) [(.t 10)])⟩, ⟨(some 12), none, (.len false (.t 11))⟩, ⟨(some 13), none, (.mv (.c (.t (.int .i64 0))))⟩]) (.block 0 (.loop (.seq (.ops [⟨(some 14), none, (.bin .lss (.t 13) (.t 12))⟩]) (.seq (.cond (.t 14) .skip (.exit 0)) (.seq (.block 1 (.seq (.ops [⟨(some 15), none, (.indexAddr 1 (.t 11) (.t 13))⟩, ⟨(some 16), none, (.load none (.t 15))⟩, ⟨(some 4), none, (.mv (.t 16))⟩]) (.seq (.ops [⟨(some 17), none, (.mv (.t 4))⟩, ⟨(some 18), none, (.bin .neq (.t 17) (.c (.t (.int .i64 0))))⟩]) (.cond (.t 18) (.seq (.ops [⟨(some 2), none, (.mv (.c (.t (.bool false))))⟩]) .ret) .skip)))) (.ops [⟨(some 19), none, (.bin .add (.t 13) (.c (.t (.int .i64 1))))⟩, ⟨(some 13), none, (.mv (.t 19))⟩]))))))) (.seq (.seq (.ops [⟨(some 20), none, (.fieldAddr 1 (.t 1))⟩, ⟨(some 21), none, (.load none (.t 20))⟩, ⟨(some 22), none, (.len false (.t 21))⟩, ⟨(some 23), none, (.mv (.c (.t (.int .i64 0))))⟩]) (.block 2 (.loop (.seq (.ops [⟨(some 24), none, (.bin .lss (.t 23) (.t 22))⟩]) (.seq (.cond (.t 24) .skip (.exit 2)) (.seq (.block 3 (.seq (.ops [⟨(some 25), none, (.mv (.t 23))⟩, ⟨(some 5), none, (.mv (.t 25))⟩]) (.seq (.ops [⟨(some 26), none, (.fieldAddr 1 (.t 1))⟩, ⟨(some 27), none, (.load none (.t 26))⟩, ⟨(some 28), none, (.mv (.t 5))⟩, ⟨(some 29), none, (.indexAddr 13 (.t 27) (.t 28))⟩, ⟨(some 6), none, (.mv (.t 29))⟩]) (.seq (.drawn [(.mk 0 false ⟨(some 30), none, (.mv (.t 6))⟩), (.mk 1 false ⟨(some 31), none, (.nilCheck (.t 30))⟩), (.mk 2 false ⟨(some 32), none, (.fieldAddr 8 (.t 31))⟩), (.mk 3 false ⟨(some 33), none, (.load none (.t 32))⟩), (.mk 4 false ⟨(some 34), none, (.bin .gtr (.t 33) (.c (.t (.int .i64 0))))⟩), (.mk 5 false ⟨(some 35), none, (.mv (.t 34))⟩), (.mk 6 false ⟨(some 36), (some ⟨35, true⟩), (.mv (.t 6))⟩), (.mk 7 false ⟨(some 37), (some ⟨35, true⟩), (.nilCheck (.t 36))⟩), (.mk 8 false ⟨(some 38), (some ⟨35, true⟩), (.fieldAddr 4 (.t 37))⟩), (.mk 9 false ⟨(some 39), (some ⟨35, true⟩), (.load none (.t 38))⟩), (.mk 10 false ⟨(some 40), (some ⟨35, true⟩), (.mv (.t 6))⟩), (.mk 11 true ⟨(some 41), (some ⟨35, true⟩), (.call (.c (.fn (.func 63) [])) [(.t 40)])⟩), (.mk 12 false ⟨(some 42), (some ⟨35, true⟩), (.bin .neq (.t 39) (.t 41))⟩), (.mk 13 false ⟨(some 43), (some ⟨35, true⟩), (.mv (.t 42))⟩), (.mk 14 false ⟨(some 44), (some ⟨43, false⟩), (.mv (.t 6))⟩), (.mk 15 false ⟨(some 45), (some ⟨43, false⟩), (.nilCheck (.t 44))⟩), (.mk 16 false ⟨(some 46), (some ⟨43, false⟩), (.fieldAddr 12 (.t 45))⟩), (.mk 17 false ⟨(some 47), (some ⟨43, false⟩), (.load none (.t 46))⟩), (.mk 18 false ⟨(some 48), (some ⟨43, false⟩), (.bin .neq (.t 47) (.c (.t (.int .i64 0))))⟩), (.mk 19 false ⟨(some 49), (some ⟨35, true⟩), (.pick (.t 43) (.c (.t (.bool true))) (.t 48))⟩), (.mk 20 false ⟨(some 50), none, (.pick (.t 35) (.t 49) (.c (.t (.bool false))))⟩)]) (.cond (.t 50) (.seq (.ops [⟨(some 2), none, (.mv (.c (.t (.bool false))))⟩]) .ret) .skip))))) (.ops [⟨(some 51), none, (.bin .add (.t 23) (.c (.t (.int .i64 1))))⟩, ⟨(some 23), none, (.mv (.t 51))⟩]))))))) (.seq (.ops [⟨(some 2), none, (.mv (.c (.t (.bool true))))⟩]) .ret)))))
theorem k_impl_StewDone : comp Try.prog 52 (Try.f26.body.getD .skip) = some c_impl_StewDone := by kernel_rfl

theorem impl_StewDone (b : StewBook) (hb : b.Ok)  (σ : Store) : ACalls Try.prog 26 [.agg (b.vs)] σ fun rr σ' => rr = .t (.bool (doneB b)) ∧ σ' = σ := by
  refine acalls_of Try.func26 (by decide +kernel) (code := Try.f26.body.getD .skip) (n := 52) (c := c_impl_StewDone) (rs := [(.tmp 2)]) rfl rfl k_impl_StewDone (by kernel_rfl) (by simp) (fun hσ => ?_)
  have hh : True := trivial
  have fin : ∀ {u : V} {τ : Store}, u = .t (.bool (doneB b)) → u.lt σ.length = true → retV σ.length (fun rr σ' => rr = .t (.bool (doneB b)) ∧ σ' = σ) (σ ++ τ) (some [u]) := fun h h2 => ret_same rfl hσ h2 ⟨h, rfl⟩
  have fin0 : ∀ {u : V}, u = .t (.bool (doneB b)) → retV σ.length (fun rr σ' => rr = .t (.bool (doneB b)) ∧ σ' = σ) σ (some [u]) := fun h => ret_same0 rfl ⟨h, rfl⟩
  have y1 := hb.Services.1
  have y5 := rank_len b
  simp -implicitDefEqProofs only [c_impl_StewDone, StewBook.vs, S0, S1, S2, S3, S4, S5, S6, S7, S8, S9, S10, S11, S12, S13, S14, S15, S16, opv, opvs, eget, env0, setD, lenStr, lenSl, isNilP, isNilS, putAt, if_true, if_false, reduceCtorEq, Nat.reduceLeDiff, Nat.reduceEqDiff, Nat.reduceSub, Nat.reduceMul, Nat.reduceAdd]
  refine call_pure (impl_StewValid b hb _) ?_
  rcases hv : stewValid b with _ | _
  · simp -implicitDefEqProofs only [cond_t, cond_f, Bool.not_false, S0, S1, S2, S3, S4, S5, S6, S7, S8, S9, S10, S11, S12, S13, S14, S15, S16, opv, opvs, eget, env0, setD, lenStr, lenSl, isNilP, isNilS, putAt, if_true, if_false, reduceCtorEq, Nat.reduceLeDiff, Nat.reduceEqDiff, Nat.reduceSub, Nat.reduceMul, Nat.reduceAdd]
    exact ret_same rfl hσ rfl ⟨by rw [doneB, hv]; rfl, rfl⟩
  simp -implicitDefEqProofs only [cond_t, cond_f, Bool.not_true, S0, S1, S2, S3, S4, S5, S6, S7, S8, S9, S10, S11, S12, S13, S14, S15, S16, opv, opvs, eget, env0, setD, lenStr, lenSl, isNilP, isNilS, putAt, if_true, if_false, reduceCtorEq, Nat.reduceLeDiff, Nat.reduceEqDiff, Nat.reduceSub, Nat.reduceMul, Nat.reduceAdd]
  have hd : doneB b = ((rankR b).all zRow && b.Services.all demP) := by rw [doneB, hv, Bool.true_and]
  refine call_pure (implF_StewRank b hb _) ?_
  simp -implicitDefEqProofs only [resT_StewRank, List.length_map, S0, S1, S2, S3, S4, S5, S6, S7, S8, S9, S10, S11, S12, S13, S14, S15, S16, opv, opvs, eget, env0, setD, lenStr, lenSl, isNilP, isNilS, putAt, if_true, if_false, reduceCtorEq, Nat.reduceLeDiff, Nat.reduceEqDiff, Nat.reduceSub, Nat.reduceMul, Nat.reduceAdd]
  refine loop_p [13, 1, 11, 12] [1, 11, 12] (fun k : Nat => [(13, .t (.int .i64 (k : Nat)))]) (fun k => k ≤ (rankR b).length ∧ ((rankR b).take k).all zRow = true) (fun k => (rankR b).length - k) 0 (by simp) ⟨Nat.zero_le _, rfl⟩ rfl ?_
  rintro k ⟨hk, hall⟩
  simp -implicitDefEqProofs only [keep, List.length_map, S0, S1, S2, S3, S4, S5, S6, S7, S8, S9, S10, S11, S12, S13, S14, S15, S16, opv, opvs, eget, env0, setD, lenStr, lenSl, isNilP, isNilS, putAt, if_true, if_false, reduceCtorEq, Nat.reduceLeDiff, Nat.reduceEqDiff, Nat.reduceSub, Nat.reduceMul, Nat.reduceAdd]
  refine cond_split (fun h1 => ?_) (fun h1 => ?_)
  · obtain ⟨x, hx, hlt⟩ := at_of h1
    obtain ⟨n, rfl⟩ := rank_row hx
    have more := i64_succ (show k < 4611686018427387904 by omega)
    simp -implicitDefEqProofs only [hx, nat_nn, Nat.zero_le, more, S0, S1, S2, S3, S4, S5, S6, S7, S8, S9, S10, S11, S12, S13, S14, S15, S16, opv, opvs, eget, env0, setD, lenStr, lenSl, isNilP, isNilS, putAt, if_true, if_false, reduceCtorEq, Nat.reduceLeDiff, Nat.reduceEqDiff, Nat.reduceSub, Nat.reduceMul, Nat.reduceAdd]
    refine cond_split (fun g1 => ?_) (fun g1 => ?_)
    · have hno := all_not (p := zRow) hx (by simp only [zRow]; simpa using g1)
      simp -implicitDefEqProofs only [S0, S1, S2, S3, S4, S5, S6, S7, S8, S9, S10, S11, S12, S13, S14, S15, S16, opv, opvs, eget, env0, setD, lenStr, lenSl, isNilP, isNilS, putAt, if_true, if_false, reduceCtorEq, Nat.reduceLeDiff, Nat.reduceEqDiff, Nat.reduceSub, Nat.reduceMul, Nat.reduceAdd]
      first | exact fin0 (by rw [hd, hno]; rfl) | exact fin (by rw [hd, hno]; rfl) rfl
    · have hy : zRow [.int .i64 n] = true := by simp only [zRow]; simpa using g1
      simp -implicitDefEqProofs only [more, S0, S1, S2, S3, S4, S5, S6, S7, S8, S9, S10, S11, S12, S13, S14, S15, S16, opv, opvs, eget, env0, setD, lenStr, lenSl, isNilP, isNilS, putAt, if_true, if_false, reduceCtorEq, Nat.reduceLeDiff, Nat.reduceEqDiff, Nat.reduceSub, Nat.reduceMul, Nat.reduceAdd]
      first | exact lk_p0 (k + 1) (by simp) (by simp) (by omega) ⟨by omega, all_step hx hall hy⟩ rfl | exact lk_p (k + 1) (by simp) (by simp) hσ rfl (by omega) ⟨by omega, all_step hx hall hy⟩ (by simp [ltE, keep, eget, V.lt]) rfl | exact lk_pm (k + 1) (Nat.le_refl _) (by simp) hσ rfl rfl (by omega) ⟨by omega, all_step hx hall hy⟩ (by simp [ltE, keep, eget, V.lt]) rfl
  replace hall := all_len hall (end_of h1 hk)
  clear h1 hk
  simp -implicitDefEqProofs only [List.length_map, S0, S1, S2, S3, S4, S5, S6, S7, S8, S9, S10, S11, S12, S13, S14, S15, S16, opv, opvs, eget, env0, setD, lenStr, lenSl, isNilP, isNilS, putAt, if_true, if_false, reduceCtorEq, Nat.reduceLeDiff, Nat.reduceEqDiff, Nat.reduceSub, Nat.reduceMul, Nat.reduceAdd]
  refine loop_p [23, 1, 22] [1, 22] (fun k : Nat => [(23, .t (.int .i64 (k : Nat)))]) (fun k => k ≤ b.Services.length ∧ (b.Services.take k).all demP = true) (fun k => b.Services.length - k) 0 (by simp) ⟨Nat.zero_le _, rfl⟩ rfl ?_
  rintro k ⟨hk, hall2⟩
  simp -implicitDefEqProofs only [keep, List.length_map, S0, S1, S2, S3, S4, S5, S6, S7, S8, S9, S10, S11, S12, S13, S14, S15, S16, opv, opvs, eget, env0, setD, lenStr, lenSl, isNilP, isNilS, putAt, if_true, if_false, reduceCtorEq, Nat.reduceLeDiff, Nat.reduceEqDiff, Nat.reduceSub, Nat.reduceMul, Nat.reduceAdd]
  refine cond_split (fun h1 => ?_) (fun h1 => ?_)
  · obtain ⟨x, hx, hlt⟩ := at_of h1
    have more := i64_succ (show k < 4611686018427387904 by omega)
    clear h1 hh
    have hh : True := trivial
    simp -implicitDefEqProofs only [hx, nat_nn, Nat.zero_le, List.getElem?_map, Option.map_some, StewService.ts, more, S0, S1, S2, S3, S4, S5, S6, S7, S8, S9, S10, S11, S12, S13, S14, S15, S16, opv, opvs, eget, env0, setD, lenStr, lenSl, isNilP, isNilS, putAt, if_true, if_false, reduceCtorEq, Nat.reduceLeDiff, Nat.reduceEqDiff, Nat.reduceSub, Nat.reduceMul, Nat.reduceAdd]
    refine cond_known (fun h => ?_) (fun h => ?_)
    · have hp : x.Per ≠ 0 := by
        have : decide (x.Per > 0) = true := h
        simp only [decide_eq_true_eq] at this
        omega
      have hc := impl_demand x hp
      rw [StewService.ts] at hc
      replace hh := And.intro h hh; clear h
      simp -implicitDefEqProofs only [hh, cond_t, cond_f, hx, nat_nn, Nat.zero_le, List.getElem?_map, Option.map_some, StewService.ts, more, S0, S1, S2, S3, S4, S5, S6, S7, S8, S9, S10, S11, S12, S13, S14, S15, S16, opv, opvs, eget, env0, setD, lenStr, lenSl, isNilP, isNilS, putAt, if_true, if_false, reduceCtorEq, Nat.reduceLeDiff, Nat.reduceEqDiff, Nat.reduceSub, Nat.reduceMul, Nat.reduceAdd]
      repeat' (first
    | ((with_reducible refine cond_known (fun h => ?_) (fun h => ?_)) <;> (replace hh := And.intro h hh; clear h; simp -implicitDefEqProofs only [hh, cond_t, cond_f, hx, nat_nn, Nat.zero_le, List.getElem?_map, Option.map_some, StewService.ts, more, S0, S1, S2, S3, S4, S5, S6, S7, S8, S9, S10, S11, S12, S13, S14, S15, S16, opv, opvs, eget, env0, setD, lenStr, lenSl, isNilP, isNilS, putAt, if_true, if_false, reduceCtorEq, Nat.reduceLeDiff, Nat.reduceEqDiff, Nat.reduceSub, Nat.reduceMul, Nat.reduceAdd]))
    | ((with_reducible refine call_pure (hc _) ?_); simp -implicitDefEqProofs only [hh, cond_t, cond_f, hx, nat_nn, Nat.zero_le, List.getElem?_map, Option.map_some, StewService.ts, more, S0, S1, S2, S3, S4, S5, S6, S7, S8, S9, S10, S11, S12, S13, S14, S15, S16, opv, opvs, eget, env0, setD, lenStr, lenSl, isNilP, isNilS, putAt, if_true, if_false, reduceCtorEq, Nat.reduceLeDiff, Nat.reduceEqDiff, Nat.reduceSub, Nat.reduceMul, Nat.reduceAdd])
    | (first | ((with_reducible refine fin0 ?_); refine tb ?_; (try simp only [Known] at hh); have hno := all_not (p := demP) hx (by grind [demP]); rw [hd, hno]; grind) | ((with_reducible refine fin ?_ ?_); rotate_left; exact rfl; refine tb ?_; (try simp only [Known] at hh); have hno := all_not (p := demP) hx (by grind [demP]); rw [hd, hno]; grind) | (refine lk_p0 (k + 1) (by simp) (by simp) (by omega) ⟨by omega, all_step hx hall2 ?_⟩ rfl; (try simp only [Known] at hh); grind [demP]) | (refine lk_p (k + 1) (by simp) (by simp) hσ rfl (by omega) ⟨by omega, all_step hx hall2 ?_⟩ rfl rfl; (try simp only [Known] at hh); grind [demP]) | (refine lk_pm (k + 1) (Nat.le_refl _) (by simp) hσ rfl rfl (by omega) ⟨by omega, all_step hx hall2 ?_⟩ (by simp [ltE, keep, eget, V.lt]) rfl; (try simp only [Known] at hh); grind [demP])))
    · replace hh := And.intro h hh; clear h
      simp -implicitDefEqProofs only [hh, cond_t, cond_f, hx, nat_nn, Nat.zero_le, List.getElem?_map, Option.map_some, StewService.ts, more, S0, S1, S2, S3, S4, S5, S6, S7, S8, S9, S10, S11, S12, S13, S14, S15, S16, opv, opvs, eget, env0, setD, lenStr, lenSl, isNilP, isNilS, putAt, if_true, if_false, reduceCtorEq, Nat.reduceLeDiff, Nat.reduceEqDiff, Nat.reduceSub, Nat.reduceMul, Nat.reduceAdd]
      repeat' (first
    | ((with_reducible refine cond_known (fun h => ?_) (fun h => ?_)) <;> (replace hh := And.intro h hh; clear h; simp -implicitDefEqProofs only [hh, cond_t, cond_f, hx, nat_nn, Nat.zero_le, List.getElem?_map, Option.map_some, StewService.ts, more, S0, S1, S2, S3, S4, S5, S6, S7, S8, S9, S10, S11, S12, S13, S14, S15, S16, opv, opvs, eget, env0, setD, lenStr, lenSl, isNilP, isNilS, putAt, if_true, if_false, reduceCtorEq, Nat.reduceLeDiff, Nat.reduceEqDiff, Nat.reduceSub, Nat.reduceMul, Nat.reduceAdd]))
    | (first | ((with_reducible refine fin0 ?_); refine tb ?_; (try simp only [Known] at hh); have hno := all_not (p := demP) hx (by grind [demP]); rw [hd, hno]; grind) | ((with_reducible refine fin ?_ ?_); rotate_left; exact rfl; refine tb ?_; (try simp only [Known] at hh); have hno := all_not (p := demP) hx (by grind [demP]); rw [hd, hno]; grind) | (refine lk_p0 (k + 1) (by simp) (by simp) (by omega) ⟨by omega, all_step hx hall2 ?_⟩ rfl; (try simp only [Known] at hh); grind [demP]) | (refine lk_p (k + 1) (by simp) (by simp) hσ rfl (by omega) ⟨by omega, all_step hx hall2 ?_⟩ rfl rfl; (try simp only [Known] at hh); grind [demP]) | (refine lk_pm (k + 1) (Nat.le_refl _) (by simp) hσ rfl rfl (by omega) ⟨by omega, all_step hx hall2 ?_⟩ (by simp [ltE, keep, eget, V.lt]) rfl; (try simp only [Known] at hh); grind [demP])))
  replace hall2 := all_len hall2 (end_of h1 hk)
  clear h1 hk
  simp -implicitDefEqProofs only [S0, S1, S2, S3, S4, S5, S6, S7, S8, S9, S10, S11, S12, S13, S14, S15, S16, opv, opvs, eget, env0, setD, lenStr, lenSl, isNilP, isNilS, putAt, if_true, if_false, reduceCtorEq, Nat.reduceLeDiff, Nat.reduceEqDiff, Nat.reduceSub, Nat.reduceMul, Nat.reduceAdd]
  first | exact fin0 (by rw [hd, hall, hall2]; rfl) | exact fin (by rw [hd, hall, hall2]; rfl) rfl

end Go.Proofs.Ytabakekeicbpbaa.W
