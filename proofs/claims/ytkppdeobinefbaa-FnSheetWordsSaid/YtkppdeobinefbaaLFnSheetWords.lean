/- FnSheetWords: what the law's code does: it returns true. Conditions: none. -/
import Derived.Test.YtkppdeobinefbaaSheetWordsR
import Derived.Test.YtkppdeobinefbaaSheetDraw3
set_option linter.unusedSimpArgs false
set_option linter.unusedVariables false
set_option linter.defProp false
open Go Go.Ab
set_option maxHeartbeats 4000000
namespace Go.Proofs.Ytkppdeobinefbaa.LFnSheetWords
open Go.Proofs.Ytkppdeobinefbaa.W
def c_laws_wtWords : C := (.seq (.ops [⟨(some 4), none, (.mv (.c (.t (.bool false))))⟩]) (.seq (.seq (.ops [⟨(some 6), none, (.mv (.t 0))⟩, ⟨(some 7), none, (.len false (.t 6))⟩, ⟨(some 8), none, (.mv (.t 1))⟩, ⟨(some 9), none, (.len false (.t 8))⟩, ⟨(some 10), none, (.bin .neq (.t 7) (.t 9))⟩]) (.cond (.t 10) (.seq (.ops [⟨(some 4), none, (.mv (.c (.t (.bool false))))⟩]) .ret) .skip)) (.seq (.seq (.ops [⟨(some 5), none, (.mv (.c (.t (.int .i64 0))))⟩]) (.block 0 (.loop (.seq (.seq (.ops [⟨(some 11), none, (.mv (.t 5))⟩, ⟨(some 12), none, (.mv (.t 0))⟩, ⟨(some 13), none, (.len false (.t 12))⟩, ⟨(some 14), none, (.bin .lss (.t 11) (.t 13))⟩]) (.cond (.t 14) .skip (.exit 0))) (.seq (.block 1 (.seq (.drawn [(.mk 0 false ⟨(some 17), none, (.mv (.t 0))⟩), (.mk 1 false ⟨(some 18), none, (.mv (.t 5))⟩), (.mk 2 false ⟨(some 19), none, (.indexAddr 1 (.t 17) (.t 18))⟩), (.mk 3 false ⟨(some 20), none, (.load none (.t 19))⟩), (.mk 4 false ⟨(some 21), none, (.mv (.t 1))⟩), (.mk 5 false ⟨(some 22), none, (.mv (.t 5))⟩), (.mk 6 false ⟨(some 23), none, (.indexAddr 1 (.t 21) (.t 22))⟩), (.mk 7 false ⟨(some 24), none, (.load none (.t 23))⟩), (.mk 8 false ⟨(some 25), none, (.bin .neq (.t 20) (.t 24))⟩)]) (.cond (.t 25) (.seq (.ops [⟨(some 4), none, (.mv (.c (.t (.bool false))))⟩]) .ret) .skip))) (.ops [⟨(some 15), none, (.mv (.t 5))⟩, ⟨(some 16), none, (.bin .add (.t 15) (.c (.t (.int .i64 1))))⟩, ⟨(some 5), none, (.mv (.t 16))⟩])))))) (.seq (.ops [⟨(some 4), none, (.mv (.c (.t (.bool true))))⟩]) .ret))))
theorem k_laws_wtWords : comp Try.prog 26 (Try.f14.body.getD .skip) = some c_laws_wtWords := by kernel_rfl

theorem wt_words (l : List (List UInt8)) (hl : l.length ≤ 1048576) (σ : Store) : ACalls Try.prog 14 [.t (tStrs l), .t (tStrs l)] σ fun r σ' => r = .t (.bool true) ∧ σ' = σ := by
  refine acalls_of Try.func14 (by decide +kernel) (code := Try.f14.body.getD .skip) (n := 26) (c := c_laws_wtWords) (rs := [(.tmp 4)]) rfl rfl k_laws_wtWords (by kernel_rfl) (by simp) (fun hσ => ?_)
  have fin : ∀ {τ : Store}, retV σ.length (fun r σ' => r = .t (.bool true) ∧ σ' = σ) (σ ++ τ) (some [.t (.bool true)]) := ret_same rfl hσ rfl ⟨rfl, rfl⟩
  have fin0 : retV σ.length (fun r σ' => r = .t (.bool true) ∧ σ' = σ) σ (some [.t (.bool true)]) := ret_same0 rfl ⟨rfl, rfl⟩
  simp -implicitDefEqProofs only [c_laws_wtWords, List.length_map, ne_self, cond_f, S0, S1, S2, S3, S4, S5, S6, S7, S8, S9, S10, S11, S12, S13, S14, S15, S16, S17, opv, opvs, eget, env0, setD, lenStr, lenSl, isNilP, isNilS, putAt, if_true, if_false, reduceCtorEq, Nat.reduceLeDiff, Nat.reduceEqDiff, Nat.reduceSub, Nat.reduceMul, Nat.reduceAdd]
  refine loop_p [5, 0, 1] [0, 1] (fun k : Nat => [(5, .t (.int .i64 (k : Nat)))]) (fun k => k ≤ l.length) (fun k => l.length - k) 0 (by simp) (Nat.zero_le _) rfl ?_
  rintro k hk
  simp -implicitDefEqProofs only [keep, List.length_map, S0, S1, S2, S3, S4, S5, S6, S7, S8, S9, S10, S11, S12, S13, S14, S15, S16, S17, opv, opvs, eget, env0, setD, lenStr, lenSl, isNilP, isNilS, putAt, if_true, if_false, reduceCtorEq, Nat.reduceLeDiff, Nat.reduceEqDiff, Nat.reduceSub, Nat.reduceMul, Nat.reduceAdd]
  refine cond_split (fun h1 => ?_) (fun h1 => ?_)
  · obtain ⟨x, hx, hlt⟩ := at_of h1
    have more := i64_succ (show k < 4611686018427387904 by omega)
    simp -implicitDefEqProofs only [hx, List.getElem?_map, Option.map_some, tStr, nat_nn, Nat.zero_le, beq_self_eq_true, Bool.not_true, more, cond_f, S0, S1, S2, S3, S4, S5, S6, S7, S8, S9, S10, S11, S12, S13, S14, S15, S16, S17, opv, opvs, eget, env0, setD, lenStr, lenSl, isNilP, isNilS, putAt, if_true, if_false, reduceCtorEq, Nat.reduceLeDiff, Nat.reduceEqDiff, Nat.reduceSub, Nat.reduceMul, Nat.reduceAdd]
    exact lk_p0 (k + 1) (by simp) rfl (by omega) (by omega) rfl
  · simp -implicitDefEqProofs only [S0, S1, S2, S3, S4, S5, S6, S7, S8, S9, S10, S11, S12, S13, S14, S15, S16, S17, opv, opvs, eget, env0, setD, lenStr, lenSl, isNilP, isNilS, putAt, if_true, if_false, reduceCtorEq, Nat.reduceLeDiff, Nat.reduceEqDiff, Nat.reduceSub, Nat.reduceMul, Nat.reduceAdd]
    exact fin0
def c_laws_FnSheetWords : C := (.seq (.ops [⟨(some 2), none, (.mv (.c (.t (.bool false))))⟩]) (.seq (.seq (.ops [⟨(some 10), none, (.mv (.t 0))⟩, ⟨(some 11), none, (.len false (.t 10))⟩, ⟨(some 12), none, (.bin .gtr (.t 11) (.c (.t (.int .i64 1048576))))⟩]) (.cond (.t 12) (.seq (.ops [⟨(some 2), none, (.mv (.c (.t (.bool true))))⟩]) .ret) .skip)) (.seq (.ops [⟨(some 13), none, (.mv (.t 0))⟩, ⟨(some 14), none, (.call (.c (.fn (.func 13) [])) [(.t 13)])⟩, ⟨(some 3), none, (.mv (.t 14))⟩]) (.seq (.ops [⟨(some 15), none, (.mv (.t 3))⟩, ⟨(some 16), none, (.call (.c (.fn (.func 9) [])) [(.t 15)])⟩, ⟨(some 4), none, (.new [.nils, (.t (.bool false))])⟩, ⟨none, none, (.store 2 (.t 4) (.t 16))⟩]) (.seq (.ops [⟨(some 17), none, (.mv (.t 3))⟩, ⟨(some 18), none, (.call (.c (.fn (.func 8) [])) [(.t 17)])⟩, ⟨(some 5), none, (.new [.nils, (.t (.bool false))])⟩, ⟨none, none, (.store 2 (.t 5) (.t 18))⟩]) (.seq (.seq (.ops [⟨(some 19), none, (.fieldAddr 1 (.t 4))⟩, ⟨(some 20), none, (.load none (.t 19))⟩, ⟨(some 21), none, (.fieldAddr 1 (.t 5))⟩, ⟨(some 22), none, (.load none (.t 21))⟩, ⟨(some 23), none, (.eqB true (.t 20) (.t 22))⟩, ⟨(some 24), none, (.mv (.t 23))⟩, ⟨(some 25), (some ⟨24, false⟩), (.fieldAddr 0 (.t 4))⟩, ⟨(some 26), (some ⟨24, false⟩), (.load none (.t 25))⟩, ⟨(some 27), (some ⟨24, false⟩), (.fieldAddr 0 (.t 5))⟩, ⟨(some 28), (some ⟨24, false⟩), (.load none (.t 27))⟩, ⟨(some 29), (some ⟨24, false⟩), (.call (.c (.fn (.func 14) [])) [(.t 26), (.t 28)])⟩, ⟨(some 30), (some ⟨24, false⟩), (.un .not (.t 29))⟩, ⟨(some 31), none, (.pick (.t 24) (.c (.t (.bool true))) (.t 30))⟩]) (.cond (.t 31) (.seq (.ops [⟨(some 2), none, (.mv (.c (.t (.bool false))))⟩]) .ret) .skip)) (.seq (.ops [⟨(some 6), none, (.mv (.c (.t (.str []))))⟩]) (.seq (.seq (.ops [⟨(some 7), none, (.mv (.c (.t (.int .i64 0))))⟩]) (.block 0 (.loop (.seq (.seq (.ops [⟨(some 32), none, (.mv (.t 7))⟩, ⟨(some 33), none, (.fieldAddr 0 (.t 4))⟩, ⟨(some 34), none, (.load none (.t 33))⟩, ⟨(some 35), none, (.len false (.t 34))⟩, ⟨(some 36), none, (.bin .lss (.t 32) (.t 35))⟩]) (.cond (.t 36) .skip (.exit 0))) (.seq (.block 1 (.ops [⟨(some 39), none, (.mv (.t 6))⟩, ⟨(some 40), none, (.fieldAddr 0 (.t 4))⟩, ⟨(some 41), none, (.load none (.t 40))⟩, ⟨(some 42), none, (.mv (.t 7))⟩, ⟨(some 43), none, (.indexAddr 1 (.t 41) (.t 42))⟩, ⟨(some 44), none, (.load none (.t 43))⟩, ⟨(some 45), none, (.call (.c (.fn (.func 7) [])) [(.t 44)])⟩, ⟨(some 46), none, (.bin .add (.t 39) (.t 45))⟩, ⟨(some 47), none, (.bin .add (.t 46) (.c (.t (.str [32]))))⟩, ⟨(some 6), none, (.mv (.t 47))⟩])) (.ops [⟨(some 37), none, (.mv (.t 7))⟩, ⟨(some 38), none, (.bin .add (.t 37) (.c (.t (.int .i64 1))))⟩, ⟨(some 7), none, (.mv (.t 38))⟩])))))) (.seq (.ops [⟨(some 48), none, (.mv (.t 6))⟩, ⟨(some 49), none, (.call (.c (.fn (.func 9) [])) [(.t 48)])⟩, ⟨(some 8), none, (.new [.nils, (.t (.bool false))])⟩, ⟨none, none, (.store 2 (.t 8) (.t 49))⟩]) (.seq (.ops [⟨(some 50), none, (.mv (.t 0))⟩, ⟨(some 51), none, (.call (.c (.fn (.func 15) [])) [(.t 50)])⟩, ⟨(some 9), none, (.mv (.t 51))⟩]) (.seq (.ops [⟨(some 52), none, (.fieldAddr 1 (.t 8))⟩, ⟨(some 53), none, (.load none (.t 52))⟩, ⟨(some 54), none, (.un .not (.t 53))⟩, ⟨(some 55), none, (.mv (.t 54))⟩, ⟨(some 56), (some ⟨55, true⟩), (.fieldAddr 0 (.t 8))⟩, ⟨(some 57), (some ⟨55, true⟩), (.load none (.t 56))⟩, ⟨(some 58), (some ⟨55, true⟩), (.fieldAddr 0 (.t 4))⟩, ⟨(some 59), (some ⟨55, true⟩), (.load none (.t 58))⟩, ⟨(some 60), (some ⟨55, true⟩), (.call (.c (.fn (.func 14) [])) [(.t 57), (.t 59)])⟩, ⟨(some 61), none, (.pick (.t 55) (.t 60) (.c (.t (.bool false))))⟩, ⟨(some 62), none, (.mv (.t 61))⟩, ⟨(some 63), (some ⟨62, true⟩), (.mv (.t 9))⟩, ⟨(some 64), (some ⟨62, true⟩), (.call (.c (.fn (.func 7) [])) [(.t 63)])⟩, ⟨(some 65), (some ⟨62, true⟩), (.mv (.t 9))⟩, ⟨(some 66), (some ⟨62, true⟩), (.call (.c (.fn (.func 6) [])) [(.t 65)])⟩, ⟨(some 67), (some ⟨62, true⟩), (.bin .eql (.t 64) (.t 66))⟩, ⟨(some 68), none, (.pick (.t 62) (.t 67) (.c (.t (.bool false))))⟩, ⟨(some 2), none, (.mv (.t 68))⟩]) .ret)))))))))))
theorem k_laws_FnSheetWords : comp Try.prog 69 (Try.f5.body.getD .skip) = some c_laws_FnSheetWords := by kernel_rfl

theorem lawFnSheetWords (a0 : List UInt8) (σ : Store) : ACalls Try.prog 5 [.t (.lst 1 (byteT a0))] σ fun r _ => r = .t (.bool true) := by
  refine acalls_of Try.func5 (by decide +kernel) (code := Try.f5.body.getD .skip) (n := 69) (c := c_laws_FnSheetWords) (rs := [(.tmp 2)]) rfl rfl k_laws_FnSheetWords (by kernel_rfl) (by simp) (fun hσ => ?_)
  have fin : ∀ {τ : Store}, retV σ.length (fun r _ => r = .t (.bool true)) (σ ++ τ) (some [.t (.bool true)]) := ret_same rfl hσ rfl rfl
  have fin0 : retV σ.length (fun r _ => r = .t (.bool true)) σ (some [.t (.bool true)]) := ret_same0 rfl rfl
  simp -implicitDefEqProofs only [c_laws_FnSheetWords, byteT_len, S0, S1, S2, S3, S4, S5, S6, S7, S8, S9, S10, S11, S12, S13, S14, S15, S16, S17, opv, opvs, eget, env0, setD, lenStr, lenSl, isNilP, isNilS, putAt, if_true, if_false, reduceCtorEq, Nat.reduceLeDiff, Nat.reduceEqDiff, Nat.reduceSub, Nat.reduceMul, Nat.reduceAdd]
  refine cond_split (fun h => ?_) (fun h => ?_)
  · simp -implicitDefEqProofs only [S0, S1, S2, S3, S4, S5, S6, S7, S8, S9, S10, S11, S12, S13, S14, S15, S16, S17, opv, opvs, eget, env0, setD, lenStr, lenSl, isNilP, isNilS, putAt, if_true, if_false, reduceCtorEq, Nat.reduceLeDiff, Nat.reduceEqDiff, Nat.reduceSub, Nat.reduceMul, Nat.reduceAdd]
    exact fin0
  simp -implicitDefEqProofs only [S0, S1, S2, S3, S4, S5, S6, S7, S8, S9, S10, S11, S12, S13, S14, S15, S16, S17, opv, opvs, eget, env0, setD, lenStr, lenSl, isNilP, isNilS, putAt, if_true, if_false, reduceCtorEq, Nat.reduceLeDiff, Nat.reduceEqDiff, Nat.reduceSub, Nat.reduceMul, Nat.reduceAdd]
  refine call_by (by rw [List.append_nil]; exact draw_words a0 _) ?_
  rintro r σ' ⟨⟨line, rfl, hline⟩, rfl⟩
  have hl1 : line.length ≤ 1048576 := by omega
  simp -implicitDefEqProofs only [S0, S1, S2, S3, S4, S5, S6, S7, S8, S9, S10, S11, S12, S13, S14, S15, S16, S17, opv, opvs, eget, env0, setD, lenStr, lenSl, isNilP, isNilS, putAt, if_true, if_false, reduceCtorEq, Nat.reduceLeDiff, Nat.reduceEqDiff, Nat.reduceSub, Nat.reduceMul, Nat.reduceAdd]
  refine call_pure (implF_SheetWords line hl1 _) ?_
  simp -implicitDefEqProofs only [resT_SheetWords, S0, S1, S2, S3, S4, S5, S6, S7, S8, S9, S10, S11, S12, S13, S14, S15, S16, S17, opv, opvs, eget, env0, setD, lenStr, lenSl, isNilP, isNilS, putAt, if_true, if_false, reduceCtorEq, Nat.reduceLeDiff, Nat.reduceEqDiff, Nat.reduceSub, Nat.reduceMul, Nat.reduceAdd]
  refine call_pure (specF_SheetWords line hl1 _) ?_
  simp -implicitDefEqProofs only [resT_SheetWords, bne_self_eq_false, beq_self_eq_true, Bool.not_true, cond_t, cond_f, S0, S1, S2, S3, S4, S5, S6, S7, S8, S9, S10, S11, S12, S13, S14, S15, S16, S17, opv, opvs, eget, env0, setD, lenStr, lenSl, isNilP, isNilS, putAt, if_true, if_false, reduceCtorEq, Nat.reduceLeDiff, Nat.reduceEqDiff, Nat.reduceSub, Nat.reduceMul, Nat.reduceAdd]
  obtain ⟨hw8, hw200⟩ := cutW_small line
  refine call_pure (wt_words (cutW line) (by omega) _) ?_
  simp -implicitDefEqProofs only [bne_self_eq_false, beq_self_eq_true, Bool.not_true, cond_t, cond_f, List.length_map, S0, S1, S2, S3, S4, S5, S6, S7, S8, S9, S10, S11, S12, S13, S14, S15, S16, S17, opv, opvs, eget, env0, setD, lenStr, lenSl, isNilP, isNilS, putAt, if_true, if_false, reduceCtorEq, Nat.reduceLeDiff, Nat.reduceEqDiff, Nat.reduceSub, Nat.reduceMul, Nat.reduceAdd]
  refine loop_p [6, 7, 0, 4] [0, 4] (fun k : Nat => [(6, .t (.str (((cutW line).take k).flatMap fun w => encW w ++ [32]))), (7, .t (.int .i64 (k : Nat)))]) (fun k => k ≤ (cutW line).length) (fun k => (cutW line).length - k) 0 (by simp) (Nat.zero_le _) rfl ?_
  rintro k hk
  have hlen : (((cutW line).take k).flatMap fun w => encW w ++ [32]).length ≤ 1000 * k := by
    have : ∀ l : List (List UInt8), (∀ w ∈ l, w.length ≤ 200) → (l.flatMap fun w => encW w ++ [32]).length ≤ 1000 * l.length := by
      intro l
      induction l with
      | nil => simp
      | cons a l ih =>
        intro h
        have h1 := ih fun w hw => h w (by simp [hw])
        have h2 := encW_len a
        have h3 := h a (by simp)
        rw [List.flatMap_cons, List.length_append, List.length_append, List.length_cons, List.length_cons, List.length_nil]
        omega
    have h2 := this ((cutW line).take k) (fun w hw => hw200 w (List.mem_of_mem_take hw))
    rw [List.length_take] at h2
    omega
  simp -implicitDefEqProofs only [keep, List.length_map, S0, S1, S2, S3, S4, S5, S6, S7, S8, S9, S10, S11, S12, S13, S14, S15, S16, S17, opv, opvs, eget, env0, setD, lenStr, lenSl, isNilP, isNilS, putAt, if_true, if_false, reduceCtorEq, Nat.reduceLeDiff, Nat.reduceEqDiff, Nat.reduceSub, Nat.reduceMul, Nat.reduceAdd]
  refine cond_split (fun h1 => ?_) (fun h1 => ?_)
  · obtain ⟨x, hx, hlt⟩ := at_of h1
    have more := i64_succ (show k < 4611686018427387904 by omega)
    have hx2 := hw200 x (mem_at hx)
    have he := encW_len x
    have hst : ((cutW line).take (k + 1)).flatMap (fun w => encW w ++ [32]) = ((cutW line).take k).flatMap (fun w => encW w ++ [32]) ++ (encW x ++ [32]) := by rw [take_of hx, List.flatMap_append]; simp
    generalize ((cutW line).take k).flatMap (fun w => encW w ++ [32]) = o at *
    simp -implicitDefEqProofs only [hx, List.getElem?_map, Option.map_some, tStr, nat_nn, Nat.zero_le, S0, S1, S2, S3, S4, S5, S6, S7, S8, S9, S10, S11, S12, S13, S14, S15, S16, S17, opv, opvs, eget, env0, setD, lenStr, lenSl, isNilP, isNilS, putAt, if_true, if_false, reduceCtorEq, Nat.reduceLeDiff, Nat.reduceEqDiff, Nat.reduceSub, Nat.reduceMul, Nat.reduceAdd]
    refine call_pure (impl_SheetWord x (by omega) _) ?_
    have b1 : ((o.length + (encW x).length : Nat) : Int) ≤ 9223372036854775807 := by omega
    have b2 : ((o.length + ((encW x).length + 1) : Nat) : Int) ≤ 9223372036854775807 := by omega
    simp -implicitDefEqProofs only [b1, b2, more, S0, S1, S2, S3, S4, S5, S6, S7, S8, S9, S10, S11, S12, S13, S14, S15, S16, S17, opv, opvs, eget, env0, setD, lenStr, lenSl, isNilP, isNilS, putAt, if_true, if_false, reduceCtorEq, Nat.reduceLeDiff, Nat.reduceEqDiff, Nat.reduceSub, Nat.reduceMul, Nat.reduceAdd]
    exact lk_p0 (k + 1) (by simp) (by simp) (by omega) (by omega) (by rw [hst]; rfl)
  have hkk := end_of h1 hk
  subst hkk
  rw [List.take_length] at hlen
  have hcut : cutF ((cutW line).flatMap fun w => encW w ++ [32]) [] = some (cutW line) := by
    have := cutF_enc (cutW line) [] hw200 (by simp; omega)
    simpa using this
  have hcw : cutW ((cutW line).flatMap fun w => encW w ++ [32]) = cutW line := by unfold cutW at hcut ⊢; rw [hcut]; rfl
  have hcb : cutBad ((cutW line).flatMap fun w => encW w ++ [32]) = false := by unfold cutBad; rw [hcut]; rfl
  simp -implicitDefEqProofs only [List.take_length, S0, S1, S2, S3, S4, S5, S6, S7, S8, S9, S10, S11, S12, S13, S14, S15, S16, S17, opv, opvs, eget, env0, setD, lenStr, lenSl, isNilP, isNilS, putAt, if_true, if_false, reduceCtorEq, Nat.reduceLeDiff, Nat.reduceEqDiff, Nat.reduceSub, Nat.reduceMul, Nat.reduceAdd]
  refine call_pure (implF_SheetWords _ (by omega) _) ?_
  simp -implicitDefEqProofs only [resT_SheetWords, hcw, hcb, S0, S1, S2, S3, S4, S5, S6, S7, S8, S9, S10, S11, S12, S13, S14, S15, S16, S17, opv, opvs, eget, env0, setD, lenStr, lenSl, isNilP, isNilS, putAt, if_true, if_false, reduceCtorEq, Nat.reduceLeDiff, Nat.reduceEqDiff, Nat.reduceSub, Nat.reduceMul, Nat.reduceAdd]
  refine call_by (by rw [List.append_nil]; exact draw_word a0 _) ?_
  rintro r σ' ⟨⟨w, rfl, hw⟩, rfl⟩
  simp -implicitDefEqProofs only [bne_self_eq_false, beq_self_eq_true, Bool.not_false, cond_t, cond_f, S0, S1, S2, S3, S4, S5, S6, S7, S8, S9, S10, S11, S12, S13, S14, S15, S16, S17, opv, opvs, eget, env0, setD, lenStr, lenSl, isNilP, isNilS, putAt, if_true, if_false, reduceCtorEq, Nat.reduceLeDiff, Nat.reduceEqDiff, Nat.reduceSub, Nat.reduceMul, Nat.reduceAdd]
  refine call_pure (wt_words (cutW line) (by omega) _) ?_
  simp -implicitDefEqProofs only [bne_self_eq_false, beq_self_eq_true, Bool.not_false, cond_t, cond_f, S0, S1, S2, S3, S4, S5, S6, S7, S8, S9, S10, S11, S12, S13, S14, S15, S16, S17, opv, opvs, eget, env0, setD, lenStr, lenSl, isNilP, isNilS, putAt, if_true, if_false, reduceCtorEq, Nat.reduceLeDiff, Nat.reduceEqDiff, Nat.reduceSub, Nat.reduceMul, Nat.reduceAdd]
  refine call_pure (impl_SheetWord w (by omega) _) ?_
  simp -implicitDefEqProofs only [bne_self_eq_false, beq_self_eq_true, Bool.not_false, cond_t, cond_f, S0, S1, S2, S3, S4, S5, S6, S7, S8, S9, S10, S11, S12, S13, S14, S15, S16, S17, opv, opvs, eget, env0, setD, lenStr, lenSl, isNilP, isNilS, putAt, if_true, if_false, reduceCtorEq, Nat.reduceLeDiff, Nat.reduceEqDiff, Nat.reduceSub, Nat.reduceMul, Nat.reduceAdd]
  refine call_pure (spec_SheetWord w (by omega) _) ?_
  simp -implicitDefEqProofs only [bne_self_eq_false, beq_self_eq_true, Bool.not_false, cond_t, cond_f, S0, S1, S2, S3, S4, S5, S6, S7, S8, S9, S10, S11, S12, S13, S14, S15, S16, S17, opv, opvs, eget, env0, setD, lenStr, lenSl, isNilP, isNilS, putAt, if_true, if_false, reduceCtorEq, Nat.reduceLeDiff, Nat.reduceEqDiff, Nat.reduceSub, Nat.reduceMul, Nat.reduceAdd]
  first | exact fin | exact fin0
end Go.Proofs.Ytkppdeobinefbaa.LFnSheetWords
