/- How long a text is, of the program. Conditions: none. -/
import Derived.Test.YtnnnemgbgilfaaaDoorSheetPrQ
set_option linter.unusedSimpArgs false
set_option linter.unusedVariables false
set_option linter.defProp false
open Go Go.Ab
set_option maxHeartbeats 2000000
namespace Go.Proofs.YtnnnemgbgilfaaaDoor.W
def linesL (t : List UInt8) : List (List UInt8) := if (splitB 10 t).getLast? = some [] then (splitB 10 t).dropLast else splitB 10 t
theorem linesL_len (t : List UInt8) : (linesL t).length = linesOf t := by
  rw [linesL, linesOf]
  split
  · rw [List.length_dropLast]
  · rfl
theorem split_frz (s0 : List UInt8) (c : UInt8) (hs : s0.length ≤ 1099511627776) (σ : Store) : ACalls Tryd.prog 72 [.t (.str s0), .t (.str [c])] σ fun rr σ' => rr = .t (.lst 1 ((splitB c s0).map tStr)) ∧ σ' = σ :=
  acalls_frzT ((strings_Split s0 c hs σ).mono fun r σ' h => h.toR (by omega) (by
    intro r hr t ht
    obtain ⟨y, _, rfl⟩ := List.mem_map.1 hr
    simp only [tStr, List.mem_singleton] at ht
    subst ht; rfl))

def c_impl_lines : C := (.seq (.ops [⟨(some 2), none, (.mv (.c .nils))⟩]) (.seq (.ops [⟨(some 4), none, (.mv (.t 0))⟩, ⟨(some 5), none, (.call (.c (.fn (.func 72) [])) [(.t 4), (.c (.t (.str [10])))])⟩, ⟨(some 3), none, (.mv (.t 5))⟩]) (.seq (.seq (.ops [⟨(some 6), none, (.mv (.t 3))⟩, ⟨(some 7), none, (.mv (.t 3))⟩, ⟨(some 8), none, (.len false (.t 7))⟩, ⟨(some 9), none, (.bin .sub (.t 8) (.c (.t (.int .i64 1))))⟩, ⟨(some 10), none, (.indexAddr 1 (.t 6) (.t 9))⟩, ⟨(some 11), none, (.load none (.t 10))⟩, ⟨(some 12), none, (.bin .eql (.t 11) (.c (.t (.str []))))⟩]) (.cond (.t 12) (.ops [⟨(some 13), none, (.mv (.t 3))⟩, ⟨(some 14), none, (.mv (.t 3))⟩, ⟨(some 15), none, (.len false (.t 14))⟩, ⟨(some 16), none, (.bin .sub (.t 15) (.c (.t (.int .i64 1))))⟩, ⟨(some 17), none, (.sliceSl 1 (.t 13) none (some (.t 16)))⟩, ⟨(some 3), none, (.mv (.t 17))⟩]) .skip)) (.seq (.ops [⟨(some 18), none, (.mv (.t 3))⟩, ⟨(some 2), none, (.mv (.t 18))⟩]) .ret))))
theorem k_impl_lines : comp Tryd.prog 19 (Tryd.f80.body.getD .skip) = some c_impl_lines := by kernel_rfl

theorem impl_lines (t : List UInt8) (ht : t.length ≤ 1099511627776)  (σ : Store) : ACalls Tryd.prog 80 [.t (.str (t))] σ fun rr σ' => rr = .t (.lst 1 ((linesL t).map tStr)) ∧ σ' = σ := by
  refine acalls_of Tryd.func80 (by decide +kernel) (code := Tryd.f80.body.getD .skip) (n := 19) (c := c_impl_lines) (rs := [(.tmp 2)]) rfl rfl k_impl_lines (by kernel_rfl) (by simp) (fun hσ => ?_)
  have hh : True := trivial
  have fin : ∀ {u : V} {τ : Store}, u = .t (.lst 1 ((linesL t).map tStr)) → u.lt σ.length = true → retV σ.length (fun rr σ' => rr = .t (.lst 1 ((linesL t).map tStr)) ∧ σ' = σ) (σ ++ τ) (some [u]) := fun h h2 => ret_same rfl hσ h2 ⟨h, rfl⟩
  have fin0 : ∀ {u : V}, u = .t (.lst 1 ((linesL t).map tStr)) → retV σ.length (fun rr σ' => rr = .t (.lst 1 ((linesL t).map tStr)) ∧ σ' = σ) σ (some [u]) := fun h => ret_same0 rfl ⟨h, rfl⟩
  simp -implicitDefEqProofs only [c_impl_lines, S0, S1, S2, S3, S4, S5, S6, S7, S8, S9, S10, S11, S12, S13, S14, S15, S16, S17, opv, opvs, eget, env0, setD, lenStr, lenSl, isNilP, isNilS, putAt, if_true, if_false, reduceCtorEq, Nat.reduceLeDiff, Nat.reduceEqDiff, Nat.reduceSub, Nat.reduceMul, Nat.reduceAdd]
  refine call_pure (split_frz t 10 ht _) ?_
  obtain ⟨L, hL⟩ : ∃ L, L = splitB 10 t := ⟨_, rfl⟩
  have hne : L ≠ [] := by rw [hL]; exact split_ne 10 t
  have hlen : L.length ≤ 1099511627777 := by
    rw [hL, splitB_len]
    have := List.count_le_length (a := (10 : UInt8)) (l := t)
    omega
  have hpos := List.length_pos_iff.2 hne
  have hR : linesL t = if L.getLast? = some [] then L.dropLast else L := by rw [linesL, hL]
  rw [← hL]
  have hsub : IntKind.i64.wrap (((L.length : Nat) : Int) - 1) = ((L.length - 1 : Nat) : Int) := by rw [IntWalk.i64_in _ (by omega)]; omega
  have hlast : L[L.length - 1]? = some (L.getLast hne) := by rw [List.getElem?_eq_getElem (by omega), List.getLast_eq_getElem]
  have hgl : L.getLast? = some (L.getLast hne) := List.getLast?_eq_some_getLast hne
  rw [hgl] at hR
  simp -implicitDefEqProofs only [hsub, hlast, tStr, nat_nn, Nat.zero_le, List.getElem?_map, Option.map_some, List.length_map, S0, S1, S2, S3, S4, S5, S6, S7, S8, S9, S10, S11, S12, S13, S14, S15, S16, S17, opv, opvs, eget, env0, setD, lenStr, lenSl, isNilP, isNilS, putAt, if_true, if_false, reduceCtorEq, Nat.reduceLeDiff, Nat.reduceEqDiff, Nat.reduceSub, Nat.reduceMul, Nat.reduceAdd]
  refine cond_split (fun h => ?_) (fun h => ?_)
  · have he : L.getLast hne = [] := by simpa using h
    rw [he, if_pos rfl] at hR
    simp -implicitDefEqProofs only [hsub, nat_nn, Nat.zero_le, List.getElem?_map, Option.map_some, List.length_map, S0, S1, S2, S3, S4, S5, S6, S7, S8, S9, S10, S11, S12, S13, S14, S15, S16, S17, opv, opvs, eget, env0, setD, lenStr, lenSl, isNilP, isNilS, putAt, if_true, if_false, reduceCtorEq, Nat.reduceLeDiff, Nat.reduceEqDiff, Nat.reduceSub, Nat.reduceMul, Nat.reduceAdd]
    refine ⟨by omega, ?_⟩
    have e2 : List.take (L.length - 1) (L.map tStr) = (linesL t).map tStr := by rw [hR, List.dropLast_eq_take, List.map_take]
    first | exact fin0 (by rw [← e2]; rfl) | exact fin (by rw [← e2]; rfl) rfl | exact fin0 (by rw [e2]) | exact fin (by rw [e2]) rfl
  · have he : L.getLast hne ≠ [] := by simpa using h
    rw [if_neg (by simpa using he)] at hR
    simp -implicitDefEqProofs only [S0, S1, S2, S3, S4, S5, S6, S7, S8, S9, S10, S11, S12, S13, S14, S15, S16, S17, opv, opvs, eget, env0, setD, lenStr, lenSl, isNilP, isNilS, putAt, if_true, if_false, reduceCtorEq, Nat.reduceLeDiff, Nat.reduceEqDiff, Nat.reduceSub, Nat.reduceMul, Nat.reduceAdd]
    first | exact fin0 (by rw [hR]) | exact fin (by rw [hR]) rfl

def c_impl_long : C := (.seq (.ops [⟨(some 2), none, (.mv (.c (.t (.bool false))))⟩]) (.seq (.ops [⟨(some 3), none, (.mv (.t 0))⟩, ⟨(some 4), none, (.len true (.t 3))⟩, ⟨(some 5), none, (.bin .gtr (.t 4) (.c (.t (.int .i64 20000))))⟩, ⟨(some 6), none, (.mv (.t 5))⟩, ⟨(some 7), (some ⟨6, false⟩), (.mv (.t 0))⟩, ⟨(some 8), (some ⟨6, false⟩), (.call (.c (.fn (.func 80) [])) [(.t 7)])⟩, ⟨(some 9), (some ⟨6, false⟩), (.len false (.t 8))⟩, ⟨(some 10), (some ⟨6, false⟩), (.bin .gtr (.t 9) (.c (.t (.int .i64 400))))⟩, ⟨(some 11), none, (.pick (.t 6) (.c (.t (.bool true))) (.t 10))⟩, ⟨(some 2), none, (.mv (.t 11))⟩]) .ret))
theorem k_impl_long : comp Tryd.prog 12 (Tryd.f54.body.getD .skip) = some c_impl_long := by kernel_rfl

theorem impl_long (t : List UInt8) (ht : t.length ≤ 1099511627776)  (σ : Store) : ACalls Tryd.prog 54 [.t (.str (t))] σ fun rr σ' => rr = .t (.bool (decide ((t.length : Int) > 20000) || decide ((linesOf t : Int) > 400))) ∧ σ' = σ := by
  refine acalls_of Tryd.func54 (by decide +kernel) (code := Tryd.f54.body.getD .skip) (n := 12) (c := c_impl_long) (rs := [(.tmp 2)]) rfl rfl k_impl_long (by kernel_rfl) (by simp) (fun hσ => ?_)
  have hh : True := trivial
  have fin : ∀ {u : V} {τ : Store}, u = .t (.bool (decide ((t.length : Int) > 20000) || decide ((linesOf t : Int) > 400))) → u.lt σ.length = true → retV σ.length (fun rr σ' => rr = .t (.bool (decide ((t.length : Int) > 20000) || decide ((linesOf t : Int) > 400))) ∧ σ' = σ) (σ ++ τ) (some [u]) := fun h h2 => ret_same rfl hσ h2 ⟨h, rfl⟩
  have fin0 : ∀ {u : V}, u = .t (.bool (decide ((t.length : Int) > 20000) || decide ((linesOf t : Int) > 400))) → retV σ.length (fun rr σ' => rr = .t (.bool (decide ((t.length : Int) > 20000) || decide ((linesOf t : Int) > 400))) ∧ σ' = σ) σ (some [u]) := fun h => ret_same0 rfl ⟨h, rfl⟩
  have hll := linesL_len t
  simp -implicitDefEqProofs only [c_impl_long, S0, S1, S2, S3, S4, S5, S6, S7, S8, S9, S10, S11, S12, S13, S14, S15, S16, S17, opv, opvs, eget, env0, setD, lenStr, lenSl, isNilP, isNilS, putAt, if_true, if_false, reduceCtorEq, Nat.reduceLeDiff, Nat.reduceEqDiff, Nat.reduceSub, Nat.reduceMul, Nat.reduceAdd]
  repeat' (first
    | ((with_reducible refine cond_known (fun h => ?_) (fun h => ?_)) <;> (replace hh := And.intro h hh; clear h; simp -implicitDefEqProofs only [hh, cond_t, cond_f, List.length_map, hll, S0, S1, S2, S3, S4, S5, S6, S7, S8, S9, S10, S11, S12, S13, S14, S15, S16, S17, opv, opvs, eget, env0, setD, lenStr, lenSl, isNilP, isNilS, putAt, if_true, if_false, reduceCtorEq, Nat.reduceLeDiff, Nat.reduceEqDiff, Nat.reduceSub, Nat.reduceMul, Nat.reduceAdd]))
    | ((with_reducible refine call_pure (impl_lines t ht _) ?_); simp -implicitDefEqProofs only [hh, cond_t, cond_f, List.length_map, hll, S0, S1, S2, S3, S4, S5, S6, S7, S8, S9, S10, S11, S12, S13, S14, S15, S16, S17, opv, opvs, eget, env0, setD, lenStr, lenSl, isNilP, isNilS, putAt, if_true, if_false, reduceCtorEq, Nat.reduceLeDiff, Nat.reduceEqDiff, Nat.reduceSub, Nat.reduceMul, Nat.reduceAdd])
    | (first | ((with_reducible refine fin0 ?_); refine tb ?_; (try simp only [Known] at hh); grind) | ((with_reducible refine fin ?_ ?_); rotate_left; exact rfl; refine tb ?_; (try simp only [Known] at hh); grind)))

end Go.Proofs.YtnnnemgbgilfaaaDoor.W
