/- The first numbered name that is not taken. Conditions: none. -/
/- The first numbered name: the reference. Conditions: none. -/
/- The act that is not covered: the reference. Conditions: none. -/
import Derived.Test.YtcjchimenfadkaaDoorCovers
import Derived.Test.YtcjchimenfadkaaDoorGateFitsD
import Derived.Lib.ItoaNum
set_option linter.unusedSimpArgs false
set_option linter.unusedVariables false
set_option linter.defProp false

section
open Go Go.Ab
set_option maxHeartbeats 2000000
namespace Go.Proofs.YtcjchimenfadkaaDoor.W
/-! ### the first name that is not taken -/
theorem dec_len : ∀ (n : Nat), (Lib.decDigits n).length ≤ n + 1 := by
  intro n
  induction n using Nat.strongRecOn with
  | _ n ih =>
    rw [Lib.decDigits]
    split
    · simp
    · have := ih (n / 10) (by omega)
      simp only [List.length_append, List.length_cons, List.length_nil]
      omega
theorem dec_ne (n : Nat) : Lib.decDigits n ≠ [] := by
  rw [Lib.decDigits]
  split <;> simp
theorem dg_inj {a b : Nat} (ha : a < 10) (hb : b < 10) (h : UInt8.ofNat (48 + a) = UInt8.ofNat (48 + b)) : a = b := by
  have := congrArg UInt8.toNat h
  simp only [UInt8.toNat_ofNat'] at this
  omega
theorem dec_inj : ∀ (m n : Nat), Lib.decDigits m = Lib.decDigits n → m = n := by
  intro m
  induction m using Nat.strongRecOn with
  | _ m ih =>
    intro n h
    rw [Lib.decDigits.eq_def m, Lib.decDigits.eq_def n] at h
    split at h <;> split at h
    · exact dg_inj (by omega) (by omega) (List.cons.inj h).1
    · have hl := congrArg List.length h
      have := dec_ne (n / 10)
      simp only [List.length_append, List.length_cons, List.length_nil] at hl
      exact (this (List.eq_nil_of_length_eq_zero (by omega))).elim
    · have hl := congrArg List.length h
      have := dec_ne (m / 10)
      simp only [List.length_append, List.length_cons, List.length_nil] at hl
      exact (this (List.eq_nil_of_length_eq_zero (by omega))).elim
    · have h1 := List.append_inj' h rfl
      have h2 := ih (m / 10) (by omega) _ h1.1
      have h3 := dg_inj (Nat.mod_lt _ (by omega)) (Nat.mod_lt _ (by omega)) (List.cons.inj h1.2).1
      omega
theorem nodup_le {α : Type} [DecidableEq α] : ∀ {a b : List α}, a.Nodup → (∀ x ∈ a, x ∈ b) → a.length ≤ b.length
  | [], _, _, _ => by simp
  | x :: a, b, h, k => by
    have hx := k x (by simp)
    have hn := List.nodup_cons.1 h
    have := nodup_le (a := a) (b := b.erase x) hn.2 (fun y hy => by
      have hne : y ≠ x := fun e => hn.1 (e ▸ hy)
      exact (List.mem_erase_of_ne hne).2 (k y (by simp [hy])))
    rw [List.length_erase_of_mem hx] at this
    have : 0 < b.length := List.length_pos_of_mem hx
    simp only [List.length_cons]
    omega
def nameN (c : List UInt8) (n : Nat) : List UInt8 := c ++ Lib.decDigits n
def freeN (c : List UInt8) (used : List (List UInt8)) : Nat → Nat → Nat
  | n, 0 => n
  | n, f + 1 => if hasW used (nameN c n) = true then freeN c used (n + 1) f else n
def firstN (c : List UInt8) (used : List (List UInt8)) : Nat := freeN c used 0 used.length
theorem hasW_mem {l : List (List UInt8)} {s : List UInt8} : hasW l s = true ↔ s ∈ l := by
  rw [hasW, Bool.not_eq_true', List.all_eq_false]
  constructor
  · rintro ⟨x, hx, h⟩
    have : x = s := by simpa [neT] using h
    exact this ▸ hx
  · intro h
    exact ⟨s, h, by simp [neT]⟩
theorem freeN_all {c : List UInt8} {used : List (List UInt8)} : ∀ (f n : Nat), (∀ j, j < n → hasW used (nameN c j) = true) → (∀ j, j < freeN c used n f → hasW used (nameN c j) = true) ∧ (hasW used (nameN c (freeN c used n f)) = false ∨ freeN c used n f = n + f) ∧ freeN c used n f ≤ n + f
  | 0, n, h => ⟨h, .inr rfl, Nat.le_refl _⟩
  | f + 1, n, h => by
    simp only [freeN]
    split
    · rename_i hh
      have := freeN_all f (n + 1) (fun j hj => by
        rcases Nat.lt_or_ge j n with h' | h'
        · exact h j h'
        · rw [show j = n by omega]; exact hh)
      exact ⟨this.1, by rw [show n + (f + 1) = n + 1 + f by omega]; exact this.2.1, by have := this.2.2; omega⟩
    · rename_i hh
      exact ⟨h, .inl (by simpa using hh), by omega⟩
theorem names_nodup (c : List UInt8) (n : Nat) : ((List.range n).map (nameN c)).Nodup := by
  rw [List.Nodup, List.pairwise_map]
  refine List.Pairwise.imp ?_ (List.nodup_range (n := n))
  intro a b hab h
  exact hab (dec_inj a b (List.append_cancel_left h))
theorem firstN_free (c : List UInt8) (used : List (List UInt8)) : hasW used (nameN c (firstN c used)) = false ∧ firstN c used ≤ used.length ∧ ∀ j, j < firstN c used → hasW used (nameN c j) = true := by
  have h := freeN_all (c := c) (used := used) used.length 0 (fun j hj => by omega)
  rw [Nat.zero_add] at h
  refine ⟨?_, h.2.2, h.1⟩
  rcases h.2.1 with h' | h'
  · exact h'
  · rcases hw : hasW used (nameN c (firstN c used)) with _ | _
    · rfl
    · have hall : ∀ x ∈ (List.range (used.length + 1)).map (nameN c), x ∈ used := by
        intro x hx
        obtain ⟨j, hj, rfl⟩ := List.mem_map.1 hx
        rw [List.mem_range] at hj
        rcases Nat.lt_or_ge j used.length with hlt | hge
        · exact hasW_mem.1 (h.1 j (by rw [h']; exact hlt))
        · have : j = firstN c used := by unfold firstN; omega
          rw [this]; exact hasW_mem.1 hw
      have := nodup_le (names_nodup c (used.length + 1)) hall
      simp at this
      omega
theorem firstN_is {c : List UInt8} {used : List (List UInt8)} {n : Nat} (h1 : ∀ j, j < n → hasW used (nameN c j) = true) (h2 : hasW used (nameN c n) = false) : n = firstN c used := by
  have h := firstN_free c used
  rcases Nat.lt_trichotomy n (firstN c used) with h' | h' | h'
  · rw [h.2.2 n h'] at h2; cases h2
  · exact h'
  · rw [h1 _ h'] at h; cases h.1
/-- It goes on: the place is at most the last. -/
theorem firstN_le {c : List UInt8} {used : List (List UInt8)} {n : Nat} (h1 : ∀ j, j < n → hasW used (nameN c j) = true) : n ≤ firstN c used := by
  have h := firstN_free c used
  rcases Nat.lt_or_ge (firstN c used) n with h' | h'
  · rw [h1 _ h'] at h; cases h.1
  · exact h'
def newN (c : List UInt8) (used : List (List UInt8)) : List UInt8 := nameN c (firstN c used)
def kindsR (rules : List GateRule) : List (List UInt8) := rules.map GateRule.Kind
def teamsR (rules : List GateRule) (tm : List GateTeam) : List (List UInt8) := rules.map GateRule.Team ++ tm.map GateTeam.Name
def uncB (tm : List GateTeam) (rules : List GateRule) (r : GateRule) : Bool := allRules tm rules r && !(lackOf tm rules r r.Verbs == 0)
def uncA (tm : List GateTeam) (rules : List GateRule) (r : GateRule) : GateAct :=
  if uncB tm rules r = true then ⟨lackOf tm rules r r.Verbs, if r.Kind = [] then newN [107] (kindsR rules) else r.Kind, if r.Team = [] then newN [116] (teamsR rules tm) else r.Team, r.Prefix⟩ else ⟨0, [], [], []⟩

end Go.Proofs.YtcjchimenfadkaaDoor.W

end


section
open Go Go.Ab
set_option maxHeartbeats 2000000
namespace Go.Proofs.YtcjchimenfadkaaDoor.W
theorem dec_step {n : Nat} (h : ¬ n < 10) : Lib.decDigits n = Lib.decDigits (n / 10) ++ [UInt8.ofNat (48 + n % 10)] := by
  rw [Lib.decDigits.eq_def n, dif_neg h]
theorem dec_one {n : Nat} (h : n < 10) : Lib.decDigits n = [UInt8.ofNat (48 + n)] := by
  rw [Lib.decDigits.eq_def n, dif_pos h]
theorem dg_wrap {n : Nat} (h : n < 10) : UInt8.ofNat (IntKind.u8.wrap (IntKind.i64.wrap (48 + (n : Int)))).toNat = UInt8.ofNat (48 + n) := by
  have h1 : IntKind.i64.wrap (48 + (n : Int)) = ((48 + n : Nat) : Int) := by rw [IntWalk.i64_in _ (by omega)]; omega
  have h2 : IntKind.u8.wrap ((48 + n : Nat) : Int) = ((48 + n : Nat) : Int) := by
    have h2 : IntKind.u8.bits = 8 := rfl
    have h3 : IntKind.u8.signed = false := rfl
    simp only [IntKind.wrap, h2, h3, Bool.false_and]
    have e : ((48 + n : Nat) : Int) % (2 ^ 8 : Int) = ((48 + n : Nat) : Int) := Int.emod_eq_of_lt (by omega) (by
      have : ((2 : Int) ^ 8) = 256 := by decide
      omega)
    simpa using e
  rw [h1, h2, Int.toNat_natCast]

def c_spec_l4Dec : C := (.seq (.ops [⟨(some 2), none, (.mv (.c (.t (.str []))))⟩]) (.seq (.seq (.ops [⟨(some 3), none, (.mv (.t 0))⟩, ⟨(some 4), none, (.bin .lss (.t 3) (.c (.t (.int .i64 10))))⟩]) (.cond (.t 4) (.seq (.ops [⟨(some 5), none, (.mv (.t 0))⟩, ⟨(some 6), none, (.bin .add (.c (.t (.int .i64 48))) (.t 5))⟩, ⟨(some 7), none, (.convInt .u8 (.t 6))⟩, ⟨(some 8), none, (.lit none 1 1 [(.t (.int .u8 0))] [⟨0, (.t 7)⟩])⟩, ⟨(some 9), none, (.bytesStr (.t 8))⟩, ⟨(some 2), none, (.mv (.t 9))⟩]) .ret) .skip)) (.seq (.drawn [(.mk 0 false ⟨(some 10), none, (.mv (.t 0))⟩ []), (.mk 1 false ⟨(some 11), none, (.bin .quo (.t 10) (.c (.t (.int .i64 10))))⟩ []), (.mk 3 false ⟨(some 13), none, (.mv (.t 0))⟩ []), (.mk 4 false ⟨(some 14), none, (.bin .rem (.t 13) (.c (.t (.int .i64 10))))⟩ []), (.mk 5 false ⟨(some 15), none, (.bin .add (.c (.t (.int .i64 48))) (.t 14))⟩ []), (.mk 6 false ⟨(some 16), none, (.convInt .u8 (.t 15))⟩ []), (.mk 7 false ⟨(some 17), none, (.lit (some false) 1 1 [(.t (.int .u8 0))] [⟨0, (.t 16)⟩])⟩ []), (.mk 8 false ⟨(some 18), none, (.bytesStr (.t 17))⟩ []), (.mk 2 true ⟨(some 12), none, (.call (.c (.fn (.func 65) [])) [(.t 11)])⟩ [⟨(some 18), none, (.bytesStr (.t 17))⟩]), (.mk 9 false ⟨(some 19), none, (.bin .add (.t 12) (.t 18))⟩ []), (.mk 10 false ⟨(some 2), none, (.mv (.t 19))⟩ [])]) .ret)))
theorem k_spec_l4Dec : comp Tryd.prog 20 (Tryd.f65.body.getD .skip) = some c_spec_l4Dec := by kernel_rfl

theorem spec_l4Dec : ∀ (n : Nat), n < 2 ^ 62 → ∀ σ : Store, ACalls Tryd.prog 65 [.t (.int .i64 (n : Nat))] σ fun rr σ' => rr = .t (.str (Lib.decDigits n)) ∧ σ' = σ := by
  intro n
  induction n using Nat.strongRecOn with
  | _ n ih =>
  intro hn σ
  refine acalls_of Tryd.func65 (by decide +kernel) (code := Tryd.f65.body.getD .skip) (n := 20) (c := c_spec_l4Dec) (rs := [(.tmp 2)]) rfl rfl k_spec_l4Dec (by kernel_rfl) (by simp) (fun hσ => ?_)
  have fin : ∀ {u : V} {τ : Store}, u = .t (.str (Lib.decDigits n)) → u.lt σ.length = true → retV σ.length (fun rr σ' => rr = .t (.str (Lib.decDigits n)) ∧ σ' = σ) (σ ++ τ) (some [u]) := fun h h2 => ret_same rfl hσ h2 ⟨h, rfl⟩
  have fin0 : ∀ {u : V}, u = .t (.str (Lib.decDigits n)) → retV σ.length (fun rr σ' => rr = .t (.str (Lib.decDigits n)) ∧ σ' = σ) σ (some [u]) := fun h => ret_same0 rfl ⟨h, rfl⟩
  simp -implicitDefEqProofs only [c_spec_l4Dec, S0, S1, S2, S3, S4, S5, S6, S7, S8, S9, S10, S11, S12, S13, S14, S15, S16, S17, opv, opvs, eget, env0, setD, lenStr, lenSl, isNilP, isNilS, putAt, if_true, if_false, reduceCtorEq, Nat.reduceLeDiff, Nat.reduceEqDiff, Nat.reduceSub, Nat.reduceMul, Nat.reduceAdd]
  refine cond_split (fun h => ?_) (fun h => ?_)
  · have hl : n < 10 := by simp at h; omega
    simp -implicitDefEqProofs only [S0, S1, S2, S3, S4, S5, S6, S7, S8, S9, S10, S11, S12, S13, S14, S15, S16, S17, opv, opvs, eget, env0, setD, lenStr, lenSl, isNilP, isNilS, putAt, if_true, if_false, reduceCtorEq, Nat.reduceLeDiff, Nat.reduceEqDiff, Nat.reduceSub, Nat.reduceMul, Nat.reduceAdd]
    refine ⟨by omega, lit_rows ?_⟩
    simp -implicitDefEqProofs only [q_rows_r, Option.map_some, S0, S1, S2, S3, S4, S5, S6, S7, S8, S9, S10, S11, S12, S13, S14, S15, S16, S17, opv, opvs, eget, env0, setD, lenStr, lenSl, isNilP, isNilS, putAt, if_true, if_false, reduceCtorEq, Nat.reduceLeDiff, Nat.reduceEqDiff, Nat.reduceSub, Nat.reduceMul, Nat.reduceAdd]
    exact fin0 (by rw [dec_one hl]; simp only [dg_wrap hl])
  · have hl : ¬ n < 10 := by simp at h; omega
    have hq : IntKind.i64.wrap ((n : Int).tdiv 10) = ((n / 10 : Nat) : Int) := by
      rw [show (n : Int).tdiv 10 = ((n / 10 : Nat) : Int) by rw [Int.tdiv_eq_ediv_of_nonneg (by omega)]; omega]
      exact IntWalk.i64_in _ (by omega)
    have hr : (n : Int).tmod 10 = ((n % 10 : Nat) : Int) := by
      rw [Int.tmod_eq_emod_of_nonneg (by omega)]; omega
    have hten : ((10 : Int) ≠ 0) = True := by simp
    have hdl := dec_len (n / 10)
    simp -implicitDefEqProofs only [hten, hq, hr, true_and, S0, S1, S2, S3, S4, S5, S6, S7, S8, S9, S10, S11, S12, S13, S14, S15, S16, S17, opv, opvs, eget, env0, setD, lenStr, lenSl, isNilP, isNilS, putAt, if_true, if_false, reduceCtorEq, Nat.reduceLeDiff, Nat.reduceEqDiff, Nat.reduceSub, Nat.reduceMul, Nat.reduceAdd]
    refine ⟨by omega, ?_⟩
    have hdg := dg_wrap (n := n % 10) (Nat.mod_lt _ (by omega))
    simp -implicitDefEqProofs only [q_rows_r, Option.map_some, hdg, S0, S1, S2, S3, S4, S5, S6, S7, S8, S9, S10, S11, S12, S13, S14, S15, S16, S17, opv, opvs, eget, env0, setD, lenStr, lenSl, isNilP, isNilS, putAt, if_true, if_false, reduceCtorEq, Nat.reduceLeDiff, Nat.reduceEqDiff, Nat.reduceSub, Nat.reduceMul, Nat.reduceAdd]
    refine call_pure (ih (n / 10) (by omega) (by omega) _) ?_
    have hln : (((Lib.decDigits (n / 10)).length + 1 : Nat) : Int) ≤ 9223372036854775807 := by omega
    simp -implicitDefEqProofs only [q_rows_r, Option.map_some, hdg, hln, List.length_cons, List.length_nil, Nat.zero_add, S0, S1, S2, S3, S4, S5, S6, S7, S8, S9, S10, S11, S12, S13, S14, S15, S16, S17, opv, opvs, eget, env0, setD, lenStr, lenSl, isNilP, isNilS, putAt, if_true, if_false, reduceCtorEq, Nat.reduceLeDiff, Nat.reduceEqDiff, Nat.reduceSub, Nat.reduceMul, Nat.reduceAdd]
    first | exact fin0 (by rw [dec_step hl]) | exact fin (by rw [dec_step hl]) rfl

theorem spec_l1HasB (l : List (List UInt8)) (hl : l.length ≤ 4194304) (v : List UInt8)  (σ : Store) : ACalls Tryd.prog 75 [.t (tStrs l), .t (.str (v))] σ fun rr σ' => rr = .t (.bool (hasW l v)) ∧ σ' = σ := by
  refine acalls_of Tryd.func75 (by decide +kernel) (code := Tryd.f75.body.getD .skip) (n := 18) (c := c_spec_l1Has) (rs := [(.tmp 4)]) rfl rfl k_spec_l1Has (by kernel_rfl) (by simp) (fun hσ => ?_)
  have hh : True := trivial
  have fin : ∀ {u : V} {τ : Store}, u = .t (.bool (hasW l v)) → u.lt σ.length = true → retV σ.length (fun rr σ' => rr = .t (.bool (hasW l v)) ∧ σ' = σ) (σ ++ τ) (some [u]) := fun h h2 => ret_same rfl hσ h2 ⟨h, rfl⟩
  have fin0 : ∀ {u : V}, u = .t (.bool (hasW l v)) → retV σ.length (fun rr σ' => rr = .t (.bool (hasW l v)) ∧ σ' = σ) σ (some [u]) := fun h => ret_same0 rfl ⟨h, rfl⟩
  simp -implicitDefEqProofs only [c_spec_l1Has, tStrs, List.length_map, S0, S1, S2, S3, S4, S5, S6, S7, S8, S9, S10, S11, S12, S13, S14, S15, S16, S17, opv, opvs, eget, env0, setD, lenStr, lenSl, isNilP, isNilS, putAt, if_true, if_false, reduceCtorEq, Nat.reduceLeDiff, Nat.reduceEqDiff, Nat.reduceSub, Nat.reduceMul, Nat.reduceAdd]
  refine loop_p [5, 0, 1] [0, 1] (fun k : Nat => [(5, .t (.int .i64 (k : Nat)))]) (fun k => k ≤ (l).length ∧ ((l).take k).all (neT v) = true) (fun k => (l).length - k) 0 (by simp) ⟨Nat.zero_le _, rfl⟩ rfl ?_
  rintro k ⟨hk, hall⟩
  simp -implicitDefEqProofs only [keep, List.length_map, S0, S1, S2, S3, S4, S5, S6, S7, S8, S9, S10, S11, S12, S13, S14, S15, S16, S17, opv, opvs, eget, env0, setD, lenStr, lenSl, isNilP, isNilS, putAt, if_true, if_false, reduceCtorEq, Nat.reduceLeDiff, Nat.reduceEqDiff, Nat.reduceSub, Nat.reduceMul, Nat.reduceAdd]
  refine cond_split (fun h1 => ?_) (fun h1 => ?_)
  · obtain ⟨x, hx, hlt⟩ := at_of h1
    clear h1 hh
    have hh : True := trivial
    simp -implicitDefEqProofs only [hx, nat_nn, Nat.zero_le, List.getElem?_map, Option.map_some, tStr, List.length_map, i64_succ (show k < 4611686018427387904 by omega), S0, S1, S2, S3, S4, S5, S6, S7, S8, S9, S10, S11, S12, S13, S14, S15, S16, S17, opv, opvs, eget, env0, setD, lenStr, lenSl, isNilP, isNilS, putAt, if_true, if_false, reduceCtorEq, Nat.reduceLeDiff, Nat.reduceEqDiff, Nat.reduceSub, Nat.reduceMul, Nat.reduceAdd]
    repeat' (first
    | ((with_reducible refine cond_known (fun h => ?_) (fun h => ?_)) <;> (replace hh := And.intro h hh; clear h; simp -implicitDefEqProofs only [hh, cond_t, cond_f, hx, nat_nn, Nat.zero_le, List.getElem?_map, Option.map_some, tStr, List.length_map, i64_succ (show k < 4611686018427387904 by omega), S0, S1, S2, S3, S4, S5, S6, S7, S8, S9, S10, S11, S12, S13, S14, S15, S16, S17, opv, opvs, eget, env0, setD, lenStr, lenSl, isNilP, isNilS, putAt, if_true, if_false, reduceCtorEq, Nat.reduceLeDiff, Nat.reduceEqDiff, Nat.reduceSub, Nat.reduceMul, Nat.reduceAdd]))
    | (first | ((with_reducible refine fin0 ?_); refine tb ?_; (try simp only [Known] at hh); have hno := all_not (l := (l)) (p := (neT v)) hx; rw [hasW, hno (by grind [neT])]; rfl) | ((with_reducible refine fin ?_ ?_); rotate_left; exact rfl; refine tb ?_; (try simp only [Known] at hh); have hno := all_not (l := (l)) (p := (neT v)) hx; rw [hasW, hno (by grind [neT])]; rfl) | (refine lk_p0 (k + 1) (by simp) (by simp) (by omega) ⟨by omega, all_step hx hall ?_⟩ rfl; (try simp only [Known] at hh); grind [neT]) | (refine lk_p (k + 1) (by simp) (by simp) hσ rfl (by omega) ⟨by omega, all_step hx hall ?_⟩ rfl rfl; (try simp only [Known] at hh); grind [neT]) | (refine lk_pm (k + 1) (Nat.le_refl _) (by simp) hσ rfl rfl (by omega) ⟨by omega, all_step hx hall ?_⟩ (by simp [ltE, keep, eget, V.lt]) rfl; (try simp only [Known] at hh); grind [neT])))
  replace hall := all_len hall ((end_of h1 hk).trans (by rfl))
  clear h1 hk
  simp -implicitDefEqProofs only [S0, S1, S2, S3, S4, S5, S6, S7, S8, S9, S10, S11, S12, S13, S14, S15, S16, S17, opv, opvs, eget, env0, setD, lenStr, lenSl, isNilP, isNilS, putAt, if_true, if_false, reduceCtorEq, Nat.reduceLeDiff, Nat.reduceEqDiff, Nat.reduceSub, Nat.reduceMul, Nat.reduceAdd]
  (first | ((with_reducible refine fin0 ?_); refine tb ?_; (try simp only [Known] at hh); rw [hasW, hall]; rfl) | ((with_reducible refine fin ?_ ?_); rotate_left; exact rfl; refine tb ?_; (try simp only [Known] at hh); rw [hasW, hall]; rfl))
def c_spec_l4New : C := (.seq (.ops [⟨(some 4), none, (.mv (.c (.t (.str []))))⟩]) (.seq (.ops [⟨(some 5), none, (.mv (.c (.t (.int .i64 0))))⟩]) (.seq (.block 0 (.loop (.seq (.seq (.ops [⟨(some 6), none, (.mv (.t 1))⟩, ⟨(some 7), none, (.mv (.t 0))⟩, ⟨(some 8), none, (.mv (.t 5))⟩, ⟨(some 9), none, (.call (.c (.fn (.func 65) [])) [(.t 8)])⟩, ⟨(some 10), none, (.bin .add (.t 7) (.t 9))⟩, ⟨(some 11), none, (.call (.c (.fn (.func 75) [])) [(.t 6), (.t 10)])⟩]) (.cond (.t 11) .skip (.exit 0))) (.block 1 (.ops [⟨(some 12), none, (.mv (.t 5))⟩, ⟨(some 13), none, (.bin .add (.t 12) (.c (.t (.int .i64 1))))⟩, ⟨(some 5), none, (.mv (.t 13))⟩]))))) (.seq (.ops [⟨(some 14), none, (.mv (.t 0))⟩, ⟨(some 15), none, (.mv (.t 5))⟩, ⟨(some 16), none, (.call (.c (.fn (.func 65) [])) [(.t 15)])⟩, ⟨(some 17), none, (.bin .add (.t 14) (.t 16))⟩, ⟨(some 4), none, (.mv (.t 17))⟩]) .ret))))
theorem k_spec_l4New : comp Tryd.prog 18 (Tryd.f39.body.getD .skip) = some c_spec_l4New := by kernel_rfl

theorem spec_l4New (c : List UInt8) (hc : c.length ≤ 1048576) (used : List (List UInt8)) (hu : used.length ≤ 4194304)  (σ : Store) : ACalls Tryd.prog 39 [.t (.str (c)), .t (tStrs used)] σ fun rr σ' => rr = .t (.str (newN c used)) ∧ σ' = σ := by
  refine acalls_of Tryd.func39 (by decide +kernel) (code := Tryd.f39.body.getD .skip) (n := 18) (c := c_spec_l4New) (rs := [(.tmp 4)]) rfl rfl k_spec_l4New (by kernel_rfl) (by simp) (fun hσ => ?_)
  have hh : True := trivial
  have fin : ∀ {u : V} {τ : Store}, u = .t (.str (newN c used)) → u.lt σ.length = true → retV σ.length (fun rr σ' => rr = .t (.str (newN c used)) ∧ σ' = σ) (σ ++ τ) (some [u]) := fun h h2 => ret_same rfl hσ h2 ⟨h, rfl⟩
  have fin0 : ∀ {u : V}, u = .t (.str (newN c used)) → retV σ.length (fun rr σ' => rr = .t (.str (newN c used)) ∧ σ' = σ) σ (some [u]) := fun h => ret_same0 rfl ⟨h, rfl⟩
  simp -implicitDefEqProofs only [c_spec_l4New, S0, S1, S2, S3, S4, S5, S6, S7, S8, S9, S10, S11, S12, S13, S14, S15, S16, S17, opv, opvs, eget, env0, setD, lenStr, lenSl, isNilP, isNilS, putAt, if_true, if_false, reduceCtorEq, Nat.reduceLeDiff, Nat.reduceEqDiff, Nat.reduceSub, Nat.reduceMul, Nat.reduceAdd]
  refine loop_p [5, 0, 1] [0, 1] (fun k : Nat => [(5, .t (.int .i64 (k : Nat)))]) (fun k => ∀ j, j < k → hasW used (nameN c j) = true) (fun k => firstN c used + 1 - k) 0 (by simp) (fun j hj => by omega) rfl ?_
  intro k hk
  have hkl := firstN_le hk
  have hfl := (firstN_free c used).2.1
  have hdl := dec_len k
  have more := i64_succ (show k < 4611686018427387904 by omega)
  have hln : ((c.length + (Lib.decDigits k).length : Nat) : Int) ≤ 9223372036854775807 := by omega
  simp -implicitDefEqProofs only [keep, S0, S1, S2, S3, S4, S5, S6, S7, S8, S9, S10, S11, S12, S13, S14, S15, S16, S17, opv, opvs, eget, env0, setD, lenStr, lenSl, isNilP, isNilS, putAt, if_true, if_false, reduceCtorEq, Nat.reduceLeDiff, Nat.reduceEqDiff, Nat.reduceSub, Nat.reduceMul, Nat.reduceAdd]
  refine call_pure (spec_l4Dec k (by omega) _) ?_
  simp -implicitDefEqProofs only [hln, S0, S1, S2, S3, S4, S5, S6, S7, S8, S9, S10, S11, S12, S13, S14, S15, S16, S17, opv, opvs, eget, env0, setD, lenStr, lenSl, isNilP, isNilS, putAt, if_true, if_false, reduceCtorEq, Nat.reduceLeDiff, Nat.reduceEqDiff, Nat.reduceSub, Nat.reduceMul, Nat.reduceAdd]
  refine call_pure (spec_l1HasB used hu (nameN c k) _) ?_
  simp -implicitDefEqProofs only [S0, S1, S2, S3, S4, S5, S6, S7, S8, S9, S10, S11, S12, S13, S14, S15, S16, S17, opv, opvs, eget, env0, setD, lenStr, lenSl, isNilP, isNilS, putAt, if_true, if_false, reduceCtorEq, Nat.reduceLeDiff, Nat.reduceEqDiff, Nat.reduceSub, Nat.reduceMul, Nat.reduceAdd]
  refine cond_split (fun h => ?_) (fun h => ?_)
  · simp -implicitDefEqProofs only [more, S0, S1, S2, S3, S4, S5, S6, S7, S8, S9, S10, S11, S12, S13, S14, S15, S16, S17, opv, opvs, eget, env0, setD, lenStr, lenSl, isNilP, isNilS, putAt, if_true, if_false, reduceCtorEq, Nat.reduceLeDiff, Nat.reduceEqDiff, Nat.reduceSub, Nat.reduceMul, Nat.reduceAdd]
    refine lk_p0 (k + 1) (by simp) (by simp) (by omega) (fun j hj => ?_) rfl
    rcases Nat.lt_or_ge j k with h' | h'
    · exact hk j h'
    · rw [show j = k by omega]; exact h
  · have hkk := firstN_is hk h
    simp -implicitDefEqProofs only [more, S0, S1, S2, S3, S4, S5, S6, S7, S8, S9, S10, S11, S12, S13, S14, S15, S16, S17, opv, opvs, eget, env0, setD, lenStr, lenSl, isNilP, isNilS, putAt, if_true, if_false, reduceCtorEq, Nat.reduceLeDiff, Nat.reduceEqDiff, Nat.reduceSub, Nat.reduceMul, Nat.reduceAdd]
    refine call_pure (spec_l4Dec k (by omega) _) ?_
    simp -implicitDefEqProofs only [hln, S0, S1, S2, S3, S4, S5, S6, S7, S8, S9, S10, S11, S12, S13, S14, S15, S16, S17, opv, opvs, eget, env0, setD, lenStr, lenSl, isNilP, isNilS, putAt, if_true, if_false, reduceCtorEq, Nat.reduceLeDiff, Nat.reduceEqDiff, Nat.reduceSub, Nat.reduceMul, Nat.reduceAdd]
    first | exact fin0 (by rw [newN, ← hkk]; rfl) | exact fin (by rw [newN, ← hkk]; rfl) rfl

end Go.Proofs.YtcjchimenfadkaaDoor.W

end


section
open Go Go.Ab
set_option maxHeartbeats 2000000
namespace Go.Proofs.YtcjchimenfadkaaDoor.W
def rowsS (l : List (List UInt8)) : List (List V) := l.map fun s => [.t (.str s)]
def zAct : List V := [.t (.int .i64 0), .t (.str []), .t (.str []), .t (.str [])]
def uncV (tm : List GateTeam) (rules : List GateRule) (r : GateRule) : V := .tup [.agg (uncA tm rules r).vs, .t (.bool (uncB tm rules r))]
theorem unc_no {tm : List GateTeam} {rules : List GateRule} {r : GateRule} (h : uncB tm rules r = false) : uncV tm rules r = .tup [.agg zAct, .t (.bool false)] := by
  rw [uncV, uncA, h, if_neg (by simp)]; rfl
theorem unc_ok {tm : List GateTeam} {rules : List GateRule} {r : GateRule} (h : uncB tm rules r = true) : uncV tm rules r = .tup [.agg [.t (.int .i64 (lackOf tm rules r r.Verbs)), .t (.str (if r.Kind = [] then newN [107] (kindsR rules) else r.Kind)), .t (.str (if r.Team = [] then newN [116] (teamsR rules tm) else r.Team)), .t (.str r.Prefix)], .t (.bool true)] := by
  rw [uncV, uncA, h, if_pos rfl]
theorem rowsS_step {l : List (List UInt8)} {k : Nat} {x : List UInt8} (h : l[k]? = some x) : rowsS (l.take k) ++ [[.t (.str x)]] = rowsS (l.take (k + 1)) := by
  rw [take_of h, rowsS, rowsS, List.map_append]; rfl
theorem rowsS_len (l : List (List UInt8)) : (rowsS l).length = l.length := by simp [rowsS]
theorem rowsS_lt (m : Nat) (l : List (List UInt8)) : V.ltss m (rowsS l) = true := ltss_map (fun x => rfl) l
theorem sees_rowsS {σ : Store} {id : Nat} {l : List (List UInt8)} (h : σ[id]? = some (.slc 1 (rowsS l))) {m : Nat} (hm : m = l.length) : SeesA σ (.t (tStrs l)) (.sl id m 0 m) := by
  subst hm
  refine .inl ⟨_, rfl, ?_⟩
  simp only [tStrs, Sees]
  refine ⟨rowsS l, ?_, ?_, by omega⟩
  · simp only [rowsOf, h, rowsS_len, and_self, if_true, List.drop_zero]
    rw [List.take_of_length_le (by simp [rowsS])]
  · clear h
    induction l with
    | nil => simp [SeesRows, rowsS]
    | cons a l ih =>
      simp only [List.map_cons, rowsS, SeesRows]
      exact ⟨_, _, rfl, by simp [tStr, SeesL, Sees], ih⟩
theorem teams_le {tm : List GateTeam} (h : teamsOk tm = true) : tm.length ≤ 1048576 := by
  grind [teamsOk]

def c_spec_GateUncovered : C := (.seq (.ops [⟨(some 5), none, (.box (.t 2))⟩, ⟨(some 6), none, (.new [(.t (.int .i64 0)), (.t (.str [])), (.t (.str [])), (.t (.str []))])⟩, ⟨(some 7), none, (.mv (.c (.t (.bool false))))⟩]) (.seq (.seq (.ops [⟨(some 13), none, (.mv (.t 0))⟩, ⟨(some 14), none, (.mv (.t 1))⟩, ⟨(some 15), none, (.load (some 4) (.t 5))⟩, ⟨(some 16), none, (.call (.c (.fn (.func 37) [])) [(.t 13), (.t 14), (.t 15)])⟩, ⟨(some 17), none, (.un .not (.t 16))⟩, ⟨(some 18), none, (.mv (.t 17))⟩, ⟨(some 19), (some ⟨18, false⟩), (.mv (.t 0))⟩, ⟨(some 20), (some ⟨18, false⟩), (.mv (.t 1))⟩, ⟨(some 21), (some ⟨18, false⟩), (.load (some 4) (.t 5))⟩, ⟨(some 22), (some ⟨18, false⟩), (.call (.c (.fn (.func 38) [])) [(.t 19), (.t 20), (.t 21)])⟩, ⟨(some 23), (some ⟨18, false⟩), (.bin .eql (.t 22) (.c (.t (.int .i64 0))))⟩, ⟨(some 24), none, (.pick (.t 18) (.c (.t (.bool true))) (.t 23))⟩]) (.cond (.t 24) (.seq (.ops [⟨(some 25), none, (.build [(.t (.int .i64 0)), (.t (.str [])), (.t (.str [])), (.t (.str []))] [])⟩, ⟨none, none, (.store 4 (.t 6) (.t 25))⟩, ⟨(some 7), none, (.mv (.c (.t (.bool false))))⟩]) .ret) .skip)) (.seq (.ops [⟨(some 26), none, (.lit none 1 0 [(.t (.str []))] [])⟩, ⟨(some 8), none, (.mv (.t 26))⟩]) (.seq (.ops [⟨(some 27), none, (.lit none 1 0 [(.t (.str []))] [])⟩, ⟨(some 9), none, (.mv (.t 27))⟩]) (.seq (.seq (.ops [⟨(some 10), none, (.mv (.c (.t (.int .i64 0))))⟩]) (.block 0 (.loop (.seq (.seq (.ops [⟨(some 28), none, (.mv (.t 10))⟩, ⟨(some 29), none, (.mv (.t 1))⟩, ⟨(some 30), none, (.len false (.t 29))⟩, ⟨(some 31), none, (.bin .lss (.t 28) (.t 30))⟩]) (.cond (.t 31) .skip (.exit 0))) (.seq (.block 1 (.seq (.ops [⟨(some 34), none, (.mv (.t 8))⟩, ⟨(some 35), none, (.mv (.t 1))⟩, ⟨(some 36), none, (.mv (.t 10))⟩, ⟨(some 37), none, (.indexAddr 4 (.t 35) (.t 36))⟩, ⟨(some 38), none, (.fieldAddr 1 (.t 37))⟩, ⟨(some 39), none, (.load none (.t 38))⟩, ⟨(some 40), none, (.lit none 1 1 [(.t (.str []))] [⟨0, (.t 39)⟩])⟩, ⟨(some 41), none, (.append 1 16 (.t 34) (.t 40))⟩, ⟨(some 8), none, (.mv (.t 41))⟩]) (.ops [⟨(some 42), none, (.mv (.t 9))⟩, ⟨(some 43), none, (.mv (.t 1))⟩, ⟨(some 44), none, (.mv (.t 10))⟩, ⟨(some 45), none, (.indexAddr 4 (.t 43) (.t 44))⟩, ⟨(some 46), none, (.fieldAddr 2 (.t 45))⟩, ⟨(some 47), none, (.load none (.t 46))⟩, ⟨(some 48), none, (.lit none 1 1 [(.t (.str []))] [⟨0, (.t 47)⟩])⟩, ⟨(some 49), none, (.append 1 16 (.t 42) (.t 48))⟩, ⟨(some 9), none, (.mv (.t 49))⟩]))) (.ops [⟨(some 32), none, (.mv (.t 10))⟩, ⟨(some 33), none, (.bin .add (.t 32) (.c (.t (.int .i64 1))))⟩, ⟨(some 10), none, (.mv (.t 33))⟩])))))) (.seq (.seq (.ops [⟨(some 11), none, (.mv (.c (.t (.int .i64 0))))⟩]) (.block 2 (.loop (.seq (.seq (.ops [⟨(some 50), none, (.mv (.t 11))⟩, ⟨(some 51), none, (.mv (.t 0))⟩, ⟨(some 52), none, (.len false (.t 51))⟩, ⟨(some 53), none, (.bin .lss (.t 50) (.t 52))⟩]) (.cond (.t 53) .skip (.exit 2))) (.seq (.block 3 (.ops [⟨(some 56), none, (.mv (.t 9))⟩, ⟨(some 57), none, (.mv (.t 0))⟩, ⟨(some 58), none, (.mv (.t 11))⟩, ⟨(some 59), none, (.indexAddr 2 (.t 57) (.t 58))⟩, ⟨(some 60), none, (.fieldAddr 0 (.t 59))⟩, ⟨(some 61), none, (.load none (.t 60))⟩, ⟨(some 62), none, (.lit none 1 1 [(.t (.str []))] [⟨0, (.t 61)⟩])⟩, ⟨(some 63), none, (.append 1 16 (.t 56) (.t 62))⟩, ⟨(some 9), none, (.mv (.t 63))⟩])) (.ops [⟨(some 54), none, (.mv (.t 11))⟩, ⟨(some 55), none, (.bin .add (.t 54) (.c (.t (.int .i64 1))))⟩, ⟨(some 11), none, (.mv (.t 55))⟩])))))) (.seq (.drawn [(.mk 0 false ⟨(some 64), none, (.mv (.t 0))⟩ []), (.mk 1 false ⟨(some 65), none, (.mv (.t 1))⟩ []), (.mk 2 false ⟨(some 66), none, (.load (some 4) (.t 5))⟩ []), (.mk 3 false ⟨(some 67), none, (.callQ (.c (.fn (.func 38) [])) [(.t 64), (.t 65), (.t 66)])⟩ []), (.mk 4 false ⟨(some 68), none, (.fieldAddr 1 (.t 5))⟩ []), (.mk 5 false ⟨(some 69), none, (.load none (.t 68))⟩ []), (.mk 6 false ⟨(some 70), none, (.fieldAddr 2 (.t 5))⟩ []), (.mk 7 false ⟨(some 71), none, (.load none (.t 70))⟩ []), (.mk 8 false ⟨(some 72), none, (.fieldAddr 3 (.t 5))⟩ []), (.mk 9 false ⟨(some 73), none, (.load none (.t 72))⟩ []), (.mk 10 false ⟨(some 74), none, (.build [(.t (.int .i64 0)), (.t (.str [])), (.t (.str [])), (.t (.str []))] [⟨0, ⟨1, (.t 67)⟩⟩, ⟨1, ⟨1, (.t 69)⟩⟩, ⟨2, ⟨1, (.t 71)⟩⟩, ⟨3, ⟨1, (.t 73)⟩⟩])⟩ []), (.mk 11 true ⟨(some 12), none, (.new [(.t (.int .i64 0)), (.t (.str [])), (.t (.str [])), (.t (.str []))])⟩ [⟨(some 66), none, (.load (some 4) (.t 5))⟩, ⟨(some 67), none, (.callQ (.c (.fn (.func 38) [])) [(.t 64), (.t 65), (.t 66)])⟩, ⟨(some 69), none, (.load none (.t 68))⟩, ⟨(some 71), none, (.load none (.t 70))⟩, ⟨(some 73), none, (.load none (.t 72))⟩]), (.mk 12 false ⟨none, none, (.store 4 (.t 12) (.t 74))⟩ [])]) (.seq (.seq (.ops [⟨(some 75), none, (.fieldAddr 1 (.t 12))⟩, ⟨(some 76), none, (.load none (.t 75))⟩, ⟨(some 77), none, (.bin .eql (.t 76) (.c (.t (.str []))))⟩]) (.cond (.t 77) (.ops [⟨(some 78), none, (.mv (.t 8))⟩, ⟨(some 79), none, (.call (.c (.fn (.func 39) [])) [(.c (.t (.str [107]))), (.t 78)])⟩, ⟨(some 80), none, (.fieldAddr 1 (.t 12))⟩, ⟨none, none, (.store 1 (.t 80) (.t 79))⟩]) .skip)) (.seq (.seq (.ops [⟨(some 81), none, (.fieldAddr 2 (.t 12))⟩, ⟨(some 82), none, (.load none (.t 81))⟩, ⟨(some 83), none, (.bin .eql (.t 82) (.c (.t (.str []))))⟩]) (.cond (.t 83) (.ops [⟨(some 84), none, (.mv (.t 9))⟩, ⟨(some 85), none, (.call (.c (.fn (.func 39) [])) [(.c (.t (.str [116]))), (.t 84)])⟩, ⟨(some 86), none, (.fieldAddr 2 (.t 12))⟩, ⟨none, none, (.store 1 (.t 86) (.t 85))⟩]) .skip)) (.seq (.ops [⟨(some 87), none, (.load (some 4) (.t 12))⟩, ⟨none, none, (.store 4 (.t 6) (.t 87))⟩, ⟨(some 7), none, (.mv (.c (.t (.bool true))))⟩]) .ret))))))))))
theorem k_spec_GateUncovered : comp Tryd.prog 88 (Tryd.f10.body.getD .skip) = some c_spec_GateUncovered := by kernel_rfl

theorem spec_GateUncovered (tm : List GateTeam) (ht : GateTeam.OkS tm) (rules : List GateRule) (hu : GateRule.OkS rules) (r : GateRule) (hr : r.Ok)  (σ : Store) : ACalls Tryd.prog 10 [.t (tGateTeamS tm), .t (tGateRuleS rules), .agg (r.vs)] σ fun rr σ' => rr = uncV tm rules r ∧ σ' = σ := by
  refine acalls_of Tryd.func10 (by decide +kernel) (code := Tryd.f10.body.getD .skip) (n := 88) (c := c_spec_GateUncovered) (rs := [(.cell 6 (some 4)), (.tmp 7)]) rfl rfl k_spec_GateUncovered (by kernel_rfl) (by simp) (fun hσ => ?_)
  have hh : True := trivial
  have fin : ∀ {u : List V} {τ : Store}, mkRes u = uncV tm rules r → (mkRes u).lt σ.length = true → retV σ.length (fun rr σ' => rr = uncV tm rules r ∧ σ' = σ) (σ ++ τ) (some u) := fun h h2 => ret_same rfl hσ h2 ⟨h, rfl⟩
  have fin0 : ∀ {u : List V}, mkRes u = uncV tm rules r → retV σ.length (fun rr σ' => rr = uncV tm rules r ∧ σ' = σ) σ (some u) := fun h => ret_same0 rfl ⟨h, rfl⟩
  have y1 := hu.1
  have y2 := ht.1
  simp -implicitDefEqProofs only [c_spec_GateUncovered, GateRule.vs, tGateTeamS, tGateRuleS, List.length_map, S0, S1, S2, S3, S4, S5, S6, S7, S8, S9, S10, S11, S12, S13, S14, S15, S16, S17, opv, opvs, eget, env0, setD, lenStr, lenSl, isNilP, isNilS, putAt, if_true, if_false, reduceCtorEq, Nat.reduceLeDiff, Nat.reduceEqDiff, Nat.reduceSub, Nat.reduceMul, Nat.reduceAdd]
  have c1 := spec_l4AllOk tm ht rules hu r hr
  have c2 := spec_l4Lacks tm ht.1 rules hu r hr
  simp only [GateRule.vs, tGateTeamS, tGateRuleS] at c1 c2
  refine call_pure (c1 _) ?_
  have hz : zAct = [.t (.int .i64 0), .t (.str []), .t (.str []), .t (.str [])] := rfl
  rcases hv : allRules tm rules r with _ | _
  · have hn : uncB tm rules r = false := by rw [uncB, hv]; rfl
    simp -implicitDefEqProofs only [hv, Bool.not_false, cond_t, cond_f, S0, S1, S2, S3, S4, S5, S6, S7, S8, S9, S10, S11, S12, S13, S14, S15, S16, S17, opv, opvs, eget, env0, setD, lenStr, lenSl, isNilP, isNilS, putAt, if_true, if_false, reduceCtorEq, Nat.reduceLeDiff, Nat.reduceEqDiff, Nat.reduceSub, Nat.reduceMul, Nat.reduceAdd]
    first | exact fin0 (unc_no hn).symm | exact fin (unc_no hn).symm rfl
  simp -implicitDefEqProofs only [hv, Bool.not_true, cond_t, cond_f, S0, S1, S2, S3, S4, S5, S6, S7, S8, S9, S10, S11, S12, S13, S14, S15, S16, S17, opv, opvs, eget, env0, setD, lenStr, lenSl, isNilP, isNilS, putAt, if_true, if_false, reduceCtorEq, Nat.reduceLeDiff, Nat.reduceEqDiff, Nat.reduceSub, Nat.reduceMul, Nat.reduceAdd]
  refine call_pure (c2 _) ?_
  rcases hz0 : (lackOf tm rules r r.Verbs == 0) with _ | _
  rotate_left
  · have hn : uncB tm rules r = false := by rw [uncB, hv, hz0]; rfl
    simp -implicitDefEqProofs only [hz0, cond_t, cond_f, S0, S1, S2, S3, S4, S5, S6, S7, S8, S9, S10, S11, S12, S13, S14, S15, S16, S17, opv, opvs, eget, env0, setD, lenStr, lenSl, isNilP, isNilS, putAt, if_true, if_false, reduceCtorEq, Nat.reduceLeDiff, Nat.reduceEqDiff, Nat.reduceSub, Nat.reduceMul, Nat.reduceAdd]
    first | exact fin0 (unc_no hn).symm | exact fin (unc_no hn).symm rfl
  have hok : uncB tm rules r = true := by rw [uncB, hv, hz0]; rfl
  have hval := unc_ok hok
  simp -implicitDefEqProofs only [hz0, cond_t, cond_f, S0, S1, S2, S3, S4, S5, S6, S7, S8, S9, S10, S11, S12, S13, S14, S15, S16, S17, opv, opvs, eget, env0, setD, lenStr, lenSl, isNilP, isNilS, putAt, if_true, if_false, reduceCtorEq, Nat.reduceLeDiff, Nat.reduceEqDiff, Nat.reduceSub, Nat.reduceMul, Nat.reduceAdd]
  refine ⟨true, ?_⟩
  simp -implicitDefEqProofs only [S0, S1, S2, S3, S4, S5, S6, S7, S8, S9, S10, S11, S12, S13, S14, S15, S16, S17, opv, opvs, eget, env0, setD, lenStr, lenSl, isNilP, isNilS, putAt, if_true, if_false, reduceCtorEq, Nat.reduceLeDiff, Nat.reduceEqDiff, Nat.reduceSub, Nat.reduceMul, Nat.reduceAdd]
  refine ⟨true, ?_⟩
  simp -implicitDefEqProofs only [S0, S1, S2, S3, S4, S5, S6, S7, S8, S9, S10, S11, S12, S13, S14, S15, S16, S17, opv, opvs, eget, env0, setD, lenStr, lenSl, isNilP, isNilS, putAt, if_true, if_false, reduceCtorEq, Nat.reduceLeDiff, Nat.reduceEqDiff, Nat.reduceSub, Nat.reduceMul, Nat.reduceAdd]
  refine loop_s [8, 9, 10, 0, 1, 5, 6] [0, 1, 5, 6] (fun k : Nat => [(8, .sl (σ.length + 2) k 0 k), (9, .sl (σ.length + 3) k 0 k), (10, .t (.int .i64 (k : Nat)))]) (fun k => σ ++ [.box r.vs, .box zAct, .slc 1 (rowsS ((kindsR rules).take k)), .slc 1 (rowsS ((rules.map GateRule.Team).take k))]) (fun k => k ≤ rules.length) (fun k => rules.length - k) 0 (σ.length + 4) (fun k => by simp) (by simp) (Nat.zero_le _) (by simp [rowsS, zAct]) rfl ?_
  intro k hk
  simp -implicitDefEqProofs only [keep, List.length_map, S0, S1, S2, S3, S4, S5, S6, S7, S8, S9, S10, S11, S12, S13, S14, S15, S16, S17, opv, opvs, eget, env0, setD, lenStr, lenSl, isNilP, isNilS, putAt, if_true, if_false, reduceCtorEq, Nat.reduceLeDiff, Nat.reduceEqDiff, Nat.reduceSub, Nat.reduceMul, Nat.reduceAdd]
  refine cond_split (fun h1 => ?_) (fun h1 => ?_)
  · obtain ⟨x, hx, hlt⟩ := at_of h1
    have more := i64_succ (show k < 4611686018427387904 by omega)
    have e1 : (kindsR rules)[k]? = some x.Kind := by rw [kindsR, List.getElem?_map, hx]; rfl
    have e2 : (rules.map GateRule.Team)[k]? = some x.Team := by rw [List.getElem?_map, hx]; rfl
    have s1 := rowsS_step e1
    have s2 := rowsS_step e2
    have l1 : (rowsS ((kindsR rules).take k)).length = k := by rw [rowsS_len, List.length_take, kindsR, List.length_map]; omega
    have l2 : (rowsS ((rules.map GateRule.Team).take k)).length = k := by rw [rowsS_len, List.length_take, List.length_map]; omega
    simp -implicitDefEqProofs only [hx, GateRule.ts, nat_nn, Nat.zero_le, List.getElem?_map, Option.map_some, List.length_map, more, S0, S1, S2, S3, S4, S5, S6, S7, S8, S9, S10, S11, S12, S13, S14, S15, S16, S17, opv, opvs, eget, env0, setD, lenStr, lenSl, isNilP, isNilS, putAt, if_true, if_false, reduceCtorEq, Nat.reduceLeDiff, Nat.reduceEqDiff, Nat.reduceSub, Nat.reduceMul, Nat.reduceAdd]
    refine ⟨by omega, false, ?_⟩
    have b1 : (k + 1) * 16 ≤ 140737488355328 := by omega
    have b2 : k + 1 ≤ 9223372036854775807 := by omega
    simp -implicitDefEqProofs only [q_rows_r, b1, b2, l1, l2, s1, s2, List.length_cons, List.length_nil, Nat.zero_add, maxBy, hx, GateRule.ts, nat_nn, Nat.zero_le, List.getElem?_map, Option.map_some, List.length_map, more, S0, S1, S2, S3, S4, S5, S6, S7, S8, S9, S10, S11, S12, S13, S14, S15, S16, S17, opv, opvs, eget, env0, setD, lenStr, lenSl, isNilP, isNilS, putAt, if_true, if_false, reduceCtorEq, Nat.reduceLeDiff, Nat.reduceEqDiff, Nat.reduceSub, Nat.reduceMul, Nat.reduceAdd]
    refine ⟨by omega, by omega, false, ?_⟩
    simp -implicitDefEqProofs only [q_rows_r, b1, b2, l1, l2, s1, s2, List.length_cons, List.length_nil, Nat.zero_add, maxBy, hx, GateRule.ts, nat_nn, Nat.zero_le, List.getElem?_map, Option.map_some, List.length_map, more, S0, S1, S2, S3, S4, S5, S6, S7, S8, S9, S10, S11, S12, S13, S14, S15, S16, S17, opv, opvs, eget, env0, setD, lenStr, lenSl, isNilP, isNilS, putAt, if_true, if_false, reduceCtorEq, Nat.reduceLeDiff, Nat.reduceEqDiff, Nat.reduceSub, Nat.reduceMul, Nat.reduceAdd]
    refine ⟨by omega, ?_⟩
    exact lk_s0 (k + 1) (by simp) (by simp) rfl (by omega) (by omega) rfl
  have hkk := end_of h1 hk
  subst hkk
  have k1 : (kindsR rules).take rules.length = kindsR rules := by rw [List.take_of_length_le (by simp [kindsR])]
  have k2 : (rules.map GateRule.Team).take rules.length = rules.map GateRule.Team := by rw [List.take_of_length_le (by simp)]
  simp only [k1, k2]
  simp -implicitDefEqProofs only [S0, S1, S2, S3, S4, S5, S6, S7, S8, S9, S10, S11, S12, S13, S14, S15, S16, S17, opv, opvs, eget, env0, setD, lenStr, lenSl, isNilP, isNilS, putAt, if_true, if_false, reduceCtorEq, Nat.reduceLeDiff, Nat.reduceEqDiff, Nat.reduceSub, Nat.reduceMul, Nat.reduceAdd]
  have tl : (teamsR rules tm).length = rules.length + tm.length := by simp [teamsR]
  have t0 : (teamsR rules tm).take (rules.length + 0) = rules.map GateRule.Team := by rw [teamsR, Nat.add_zero, List.take_left' (by simp)]
  refine loop_s [9, 11, 0, 1, 5, 6, 8] [0, 1, 5, 6, 8] (fun j : Nat => [(9, .sl (σ.length + 3) (rules.length + j) 0 (rules.length + j)), (11, .t (.int .i64 (j : Nat)))]) (fun j => σ ++ [.box r.vs, .box zAct, .slc 1 (rowsS (kindsR rules)), .slc 1 (rowsS ((teamsR rules tm).take (rules.length + j)))]) (fun j => j ≤ tm.length) (fun j => tm.length - j) 0 (σ.length + 4) (fun k => by simp) (by simp) (Nat.zero_le _) (by rw [t0]) rfl ?_
  intro j hj
  simp -implicitDefEqProofs only [keep, List.length_map, S0, S1, S2, S3, S4, S5, S6, S7, S8, S9, S10, S11, S12, S13, S14, S15, S16, S17, opv, opvs, eget, env0, setD, lenStr, lenSl, isNilP, isNilS, putAt, if_true, if_false, reduceCtorEq, Nat.reduceLeDiff, Nat.reduceEqDiff, Nat.reduceSub, Nat.reduceMul, Nat.reduceAdd]
  refine cond_split (fun h1 => ?_) (fun h1 => ?_)
  · obtain ⟨x, hx, hlt⟩ := at_of h1
    have more := i64_succ (show j < 4611686018427387904 by omega)
    have e2 : (teamsR rules tm)[rules.length + j]? = some x.Name := by rw [teamsR, List.getElem?_append_right (by simp), List.length_map, Nat.add_sub_cancel_left, List.getElem?_map, hx]; rfl
    have s2 := rowsS_step e2
    have l2 : (rowsS ((teamsR rules tm).take (rules.length + j))).length = rules.length + j := by rw [rowsS_len, List.length_take, tl]; omega
    have b1 : (rules.length + j + 1) * 16 ≤ 140737488355328 := by omega
    have b2 : rules.length + j + 1 ≤ 9223372036854775807 := by omega
    simp -implicitDefEqProofs only [hx, GateTeam.ts, nat_nn, Nat.zero_le, List.getElem?_map, Option.map_some, List.length_map, more, S0, S1, S2, S3, S4, S5, S6, S7, S8, S9, S10, S11, S12, S13, S14, S15, S16, S17, opv, opvs, eget, env0, setD, lenStr, lenSl, isNilP, isNilS, putAt, if_true, if_false, reduceCtorEq, Nat.reduceLeDiff, Nat.reduceEqDiff, Nat.reduceSub, Nat.reduceMul, Nat.reduceAdd]
    refine ⟨by omega, false, ?_⟩
    simp -implicitDefEqProofs only [q_rows_r, b1, b2, l2, s2, List.length_cons, List.length_nil, Nat.zero_add, maxBy, hx, GateTeam.ts, nat_nn, Nat.zero_le, List.getElem?_map, Option.map_some, List.length_map, more, S0, S1, S2, S3, S4, S5, S6, S7, S8, S9, S10, S11, S12, S13, S14, S15, S16, S17, opv, opvs, eget, env0, setD, lenStr, lenSl, isNilP, isNilS, putAt, if_true, if_false, reduceCtorEq, Nat.reduceLeDiff, Nat.reduceEqDiff, Nat.reduceSub, Nat.reduceMul, Nat.reduceAdd]
    refine ⟨by omega, by omega, ?_⟩
    exact lk_s0 (j + 1) (by simp) (by simp) rfl (by omega) (by omega) rfl
  have hjj := end_of h1 hj
  subst hjj
  have k3 : (teamsR rules tm).take (rules.length + tm.length) = teamsR rules tm := by rw [List.take_of_length_le (by omega)]
  simp only [k3]
  simp -implicitDefEqProofs only [S0, S1, S2, S3, S4, S5, S6, S7, S8, S9, S10, S11, S12, S13, S14, S15, S16, S17, opv, opvs, eget, env0, setD, lenStr, lenSl, isNilP, isNilS, putAt, if_true, if_false, reduceCtorEq, Nat.reduceLeDiff, Nat.reduceEqDiff, Nat.reduceSub, Nat.reduceMul, Nat.reduceAdd]
  refine call_pureQ (fun τ => c2 _) ?_
  simp -implicitDefEqProofs only [hz, List.drop_succ_cons, List.drop_zero, List.drop_nil, S0, S1, S2, S3, S4, S5, S6, S7, S8, S9, S10, S11, S12, S13, S14, S15, S16, S17, opv, opvs, eget, env0, setD, lenStr, lenSl, isNilP, isNilS, putAt, if_true, if_false, reduceCtorEq, Nat.reduceLeDiff, Nat.reduceEqDiff, Nat.reduceSub, Nat.reduceMul, Nat.reduceAdd]
  have hkn := spec_l4New [107] (by simp) (kindsR rules) (by rw [kindsR, List.length_map]; omega)
  have htn := spec_l4New [116] (by simp) (teamsR rules tm) (by omega)
  have hfr : ∀ (s : Store) (c : List UInt8) (l : List (List UInt8)), (V.t (.str (newN c l))).free s.length = true := fun _ _ _ => rfl
  refine cond_split (fun h => ?_) (fun h => ?_)
  · have hke : r.Kind = [] := by simpa using h
    rw [if_pos hke] at hval
    simp -implicitDefEqProofs only [hz, List.drop_succ_cons, List.drop_zero, List.drop_nil, S0, S1, S2, S3, S4, S5, S6, S7, S8, S9, S10, S11, S12, S13, S14, S15, S16, S17, opv, opvs, eget, env0, setD, lenStr, lenSl, isNilP, isNilS, putAt, if_true, if_false, reduceCtorEq, Nat.reduceLeDiff, Nat.reduceEqDiff, Nat.reduceSub, Nat.reduceMul, Nat.reduceAdd]
    refine call_bor hkn rfl ⟨_, _, rfl, sees_one rfl, _, _, rfl, sees_rowsS (id := σ.length + 2) (by simp) (by simp [kindsR]), rfl⟩ ?_
    simp -implicitDefEqProofs only [hz, List.drop_succ_cons, List.drop_zero, List.drop_nil, S0, S1, S2, S3, S4, S5, S6, S7, S8, S9, S10, S11, S12, S13, S14, S15, S16, S17, opv, opvs, eget, env0, setD, lenStr, lenSl, isNilP, isNilS, putAt, if_true, if_false, reduceCtorEq, Nat.reduceLeDiff, Nat.reduceEqDiff, Nat.reduceSub, Nat.reduceMul, Nat.reduceAdd]
    refine cond_split (fun h => ?_) (fun h => ?_)
    · have hte : r.Team = [] := by simpa using h
      rw [if_pos hte] at hval
      simp -implicitDefEqProofs only [hz, List.drop_succ_cons, List.drop_zero, List.drop_nil, S0, S1, S2, S3, S4, S5, S6, S7, S8, S9, S10, S11, S12, S13, S14, S15, S16, S17, opv, opvs, eget, env0, setD, lenStr, lenSl, isNilP, isNilS, putAt, if_true, if_false, reduceCtorEq, Nat.reduceLeDiff, Nat.reduceEqDiff, Nat.reduceSub, Nat.reduceMul, Nat.reduceAdd]
      refine call_bor htn rfl ⟨_, _, rfl, sees_one rfl, _, _, rfl, sees_rowsS (id := σ.length + 3) (by simp) (by omega), rfl⟩ ?_
      simp -implicitDefEqProofs only [hz, List.drop_succ_cons, List.drop_zero, List.drop_nil, S0, S1, S2, S3, S4, S5, S6, S7, S8, S9, S10, S11, S12, S13, S14, S15, S16, S17, opv, opvs, eget, env0, setD, lenStr, lenSl, isNilP, isNilS, putAt, if_true, if_false, reduceCtorEq, Nat.reduceLeDiff, Nat.reduceEqDiff, Nat.reduceSub, Nat.reduceMul, Nat.reduceAdd]
      (with_reducible refine fin ?_ ?_); rotate_left; exact rfl; rw [hval]; rfl
    · have hte : ¬ r.Team = [] := by simpa using h
      rw [if_neg hte] at hval
      simp -implicitDefEqProofs only [hz, List.drop_succ_cons, List.drop_zero, List.drop_nil, S0, S1, S2, S3, S4, S5, S6, S7, S8, S9, S10, S11, S12, S13, S14, S15, S16, S17, opv, opvs, eget, env0, setD, lenStr, lenSl, isNilP, isNilS, putAt, if_true, if_false, reduceCtorEq, Nat.reduceLeDiff, Nat.reduceEqDiff, Nat.reduceSub, Nat.reduceMul, Nat.reduceAdd]
      (with_reducible refine fin ?_ ?_); rotate_left; exact rfl; rw [hval]; rfl
  · have hke : ¬ r.Kind = [] := by simpa using h
    rw [if_neg hke] at hval
    simp -implicitDefEqProofs only [hz, List.drop_succ_cons, List.drop_zero, List.drop_nil, S0, S1, S2, S3, S4, S5, S6, S7, S8, S9, S10, S11, S12, S13, S14, S15, S16, S17, opv, opvs, eget, env0, setD, lenStr, lenSl, isNilP, isNilS, putAt, if_true, if_false, reduceCtorEq, Nat.reduceLeDiff, Nat.reduceEqDiff, Nat.reduceSub, Nat.reduceMul, Nat.reduceAdd]
    refine cond_split (fun h => ?_) (fun h => ?_)
    · have hte : r.Team = [] := by simpa using h
      rw [if_pos hte] at hval
      simp -implicitDefEqProofs only [hz, List.drop_succ_cons, List.drop_zero, List.drop_nil, S0, S1, S2, S3, S4, S5, S6, S7, S8, S9, S10, S11, S12, S13, S14, S15, S16, S17, opv, opvs, eget, env0, setD, lenStr, lenSl, isNilP, isNilS, putAt, if_true, if_false, reduceCtorEq, Nat.reduceLeDiff, Nat.reduceEqDiff, Nat.reduceSub, Nat.reduceMul, Nat.reduceAdd]
      refine call_bor htn rfl ⟨_, _, rfl, sees_one rfl, _, _, rfl, sees_rowsS (id := σ.length + 3) (by simp) (by omega), rfl⟩ ?_
      simp -implicitDefEqProofs only [hz, List.drop_succ_cons, List.drop_zero, List.drop_nil, S0, S1, S2, S3, S4, S5, S6, S7, S8, S9, S10, S11, S12, S13, S14, S15, S16, S17, opv, opvs, eget, env0, setD, lenStr, lenSl, isNilP, isNilS, putAt, if_true, if_false, reduceCtorEq, Nat.reduceLeDiff, Nat.reduceEqDiff, Nat.reduceSub, Nat.reduceMul, Nat.reduceAdd]
      (with_reducible refine fin ?_ ?_); rotate_left; exact rfl; rw [hval]; rfl
    · have hte : ¬ r.Team = [] := by simpa using h
      rw [if_neg hte] at hval
      simp -implicitDefEqProofs only [hz, List.drop_succ_cons, List.drop_zero, List.drop_nil, S0, S1, S2, S3, S4, S5, S6, S7, S8, S9, S10, S11, S12, S13, S14, S15, S16, S17, opv, opvs, eget, env0, setD, lenStr, lenSl, isNilP, isNilS, putAt, if_true, if_false, reduceCtorEq, Nat.reduceLeDiff, Nat.reduceEqDiff, Nat.reduceSub, Nat.reduceMul, Nat.reduceAdd]
      (with_reducible refine fin ?_ ?_); rotate_left; exact rfl; rw [hval]; rfl

end Go.Proofs.YtcjchimenfadkaaDoor.W

end
