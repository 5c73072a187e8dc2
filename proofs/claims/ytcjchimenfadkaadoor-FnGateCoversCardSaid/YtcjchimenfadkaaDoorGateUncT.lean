/- The first numbered name that is not taken. Conditions: none. -/
/- The first numbered name: the reference. Conditions: none. -/
/- The act that is not covered: the reference. Conditions: none. -/
import Derived.Test.YtcjchimenfadkaaDoorCovers
import Derived.Test.YtcjchimenfadkaaDoorGateFitsD
import Derived.Lib.ItoaNum
set_option linter.unusedSimpArgs false
set_option linter.unusedVariables false
set_option linter.defProp false

section
open Go Go.Ab
set_option maxHeartbeats 2000000
namespace Go.Proofs.YtcjchimenfadkaaDoor.W
/-! ### the first name that is not taken -/
theorem dec_len : ∀ (n : Nat), (Lib.decDigits n).length ≤ n + 1 := by
  intro n
  induction n using Nat.strongRecOn with
  | _ n ih =>
    rw [Lib.decDigits]
    split
    · simp
    · have := ih (n / 10) (by omega)
      simp only [List.length_append, List.length_cons, List.length_nil]
      omega
theorem dec_ne (n : Nat) : Lib.decDigits n ≠ [] := by
  rw [Lib.decDigits]
  split <;> simp
theorem dg_inj {a b : Nat} (ha : a < 10) (hb : b < 10) (h : UInt8.ofNat (48 + a) = UInt8.ofNat (48 + b)) : a = b := by
  have := congrArg UInt8.toNat h
  simp only [UInt8.toNat_ofNat'] at this
  omega
theorem dec_inj : ∀ (m n : Nat), Lib.decDigits m = Lib.decDigits n → m = n := by
  intro m
  induction m using Nat.strongRecOn with
  | _ m ih =>
    intro n h
    rw [Lib.decDigits.eq_def m, Lib.decDigits.eq_def n] at h
    split at h <;> split at h
    · exact dg_inj (by omega) (by omega) (List.cons.inj h).1
    · have hl := congrArg List.length h
      have := dec_ne (n / 10)
      simp only [List.length_append, List.length_cons, List.length_nil] at hl
      exact (this (List.eq_nil_of_length_eq_zero (by omega))).elim
    · have hl := congrArg List.length h
      have := dec_ne (m / 10)
      simp only [List.length_append, List.length_cons, List.length_nil] at hl
      exact (this (List.eq_nil_of_length_eq_zero (by omega))).elim
    · have h1 := List.append_inj' h rfl
      have h2 := ih (m / 10) (by omega) _ h1.1
      have h3 := dg_inj (Nat.mod_lt _ (by omega)) (Nat.mod_lt _ (by omega)) (List.cons.inj h1.2).1
      omega
theorem nodup_le {α : Type} [DecidableEq α] : ∀ {a b : List α}, a.Nodup → (∀ x ∈ a, x ∈ b) → a.length ≤ b.length
  | [], _, _, _ => by simp
  | x :: a, b, h, k => by
    have hx := k x (by simp)
    have hn := List.nodup_cons.1 h
    have := nodup_le (a := a) (b := b.erase x) hn.2 (fun y hy => by
      have hne : y ≠ x := fun e => hn.1 (e ▸ hy)
      exact (List.mem_erase_of_ne hne).2 (k y (by simp [hy])))
    rw [List.length_erase_of_mem hx] at this
    have : 0 < b.length := List.length_pos_of_mem hx
    simp only [List.length_cons]
    omega
def nameN (c : List UInt8) (n : Nat) : List UInt8 := c ++ Lib.decDigits n
def freeN (c : List UInt8) (used : List (List UInt8)) : Nat → Nat → Nat
  | n, 0 => n
  | n, f + 1 => if hasW used (nameN c n) = true then freeN c used (n + 1) f else n
def firstN (c : List UInt8) (used : List (List UInt8)) : Nat := freeN c used 0 used.length
theorem hasW_mem {l : List (List UInt8)} {s : List UInt8} : hasW l s = true ↔ s ∈ l := by
  rw [hasW, Bool.not_eq_true', List.all_eq_false]
  constructor
  · rintro ⟨x, hx, h⟩
    have : x = s := by simpa [neT] using h
    exact this ▸ hx
  · intro h
    exact ⟨s, h, by simp [neT]⟩
theorem freeN_all {c : List UInt8} {used : List (List UInt8)} : ∀ (f n : Nat), (∀ j, j < n → hasW used (nameN c j) = true) → (∀ j, j < freeN c used n f → hasW used (nameN c j) = true) ∧ (hasW used (nameN c (freeN c used n f)) = false ∨ freeN c used n f = n + f) ∧ freeN c used n f ≤ n + f
  | 0, n, h => ⟨h, .inr rfl, Nat.le_refl _⟩
  | f + 1, n, h => by
    simp only [freeN]
    split
    · rename_i hh
      have := freeN_all f (n + 1) (fun j hj => by
        rcases Nat.lt_or_ge j n with h' | h'
        · exact h j h'
        · rw [show j = n by omega]; exact hh)
      exact ⟨this.1, by rw [show n + (f + 1) = n + 1 + f by omega]; exact this.2.1, by have := this.2.2; omega⟩
    · rename_i hh
      exact ⟨h, .inl (by simpa using hh), by omega⟩
theorem names_nodup (c : List UInt8) (n : Nat) : ((List.range n).map (nameN c)).Nodup := by
  rw [List.Nodup, List.pairwise_map]
  refine List.Pairwise.imp ?_ (List.nodup_range (n := n))
  intro a b hab h
  exact hab (dec_inj a b (List.append_cancel_left h))
theorem firstN_free (c : List UInt8) (used : List (List UInt8)) : hasW used (nameN c (firstN c used)) = false ∧ firstN c used ≤ used.length ∧ ∀ j, j < firstN c used → hasW used (nameN c j) = true := by
  have h := freeN_all (c := c) (used := used) used.length 0 (fun j hj => by omega)
  rw [Nat.zero_add] at h
  refine ⟨?_, h.2.2, h.1⟩
  rcases h.2.1 with h' | h'
  · exact h'
  · rcases hw : hasW used (nameN c (firstN c used)) with _ | _
    · rfl
    · have hall : ∀ x ∈ (List.range (used.length + 1)).map (nameN c), x ∈ used := by
        intro x hx
        obtain ⟨j, hj, rfl⟩ := List.mem_map.1 hx
        rw [List.mem_range] at hj
        rcases Nat.lt_or_ge j used.length with hlt | hge
        · exact hasW_mem.1 (h.1 j (by rw [h']; exact hlt))
        · have : j = firstN c used := by unfold firstN; omega
          rw [this]; exact hasW_mem.1 hw
      have := nodup_le (names_nodup c (used.length + 1)) hall
      simp at this
      omega
theorem firstN_is {c : List UInt8} {used : List (List UInt8)} {n : Nat} (h1 : ∀ j, j < n → hasW used (nameN c j) = true) (h2 : hasW used (nameN c n) = false) : n = firstN c used := by
  have h := firstN_free c used
  rcases Nat.lt_trichotomy n (firstN c used) with h' | h' | h'
  · rw [h.2.2 n h'] at h2; cases h2
  · exact h'
  · rw [h1 _ h'] at h; cases h.1
/-- It goes on: the place is at most the last. -/
theorem firstN_le {c : List UInt8} {used : List (List UInt8)} {n : Nat} (h1 : ∀ j, j < n → hasW used (nameN c j) = true) : n ≤ firstN c used := by
  have h := firstN_free c used
  rcases Nat.lt_or_ge (firstN c used) n with h' | h'
  · rw [h1 _ h'] at h; cases h.1
  · exact h'
def newN (c : List UInt8) (used : List (List UInt8)) : List UInt8 := nameN c (firstN c used)
def kindsR (rules : List GateRule) : List (List UInt8) := rules.map GateRule.Kind
def teamsR (rules : List GateRule) (tm : List GateTeam) : List (List UInt8) := rules.map GateRule.Team ++ tm.map GateTeam.Name
def uncB (tm : List GateTeam) (rules : List GateRule) (r : GateRule) : Bool := allRules tm rules r && !(lackOf tm rules r r.Verbs == 0)
def uncA (tm : List GateTeam) (rules : List GateRule) (r : GateRule) : GateAct :=
  if uncB tm rules r = true then ⟨lackOf tm rules r r.Verbs, if r.Kind = [] then newN [107] (kindsR rules) else r.Kind, if r.Team = [] then newN [116] (teamsR rules tm) else r.Team, r.Prefix⟩ else ⟨0, [], [], []⟩

end Go.Proofs.YtcjchimenfadkaaDoor.W

end


section
open Go Go.Ab
set_option maxHeartbeats 2000000
namespace Go.Proofs.YtcjchimenfadkaaDoor.W
theorem dec_step {n : Nat} (h : ¬ n < 10) : Lib.decDigits n = Lib.decDigits (n / 10) ++ [UInt8.ofNat (48 + n % 10)] := by
  rw [Lib.decDigits.eq_def n, dif_neg h]
theorem dec_one {n : Nat} (h : n < 10) : Lib.decDigits n = [UInt8.ofNat (48 + n)] := by
  rw [Lib.decDigits.eq_def n, dif_pos h]
theorem dg_wrap {n : Nat} (h : n < 10) : UInt8.ofNat (IntKind.u8.wrap (IntKind.i64.wrap (48 + (n : Int)))).toNat = UInt8.ofNat (48 + n) := by
  have h1 : IntKind.i64.wrap (48 + (n : Int)) = ((48 + n : Nat) : Int) := by rw [IntWalk.i64_in _ (by omega)]; omega
  have h2 : IntKind.u8.wrap ((48 + n : Nat) : Int) = ((48 + n : Nat) : Int) := by
    have h2 : IntKind.u8.bits = 8 := rfl
    have h3 : IntKind.u8.signed = false := rfl
    simp only [IntKind.wrap, h2, h3, Bool.false_and]
    have e : ((48 + n : Nat) : Int) % (2 ^ 8 : Int) = ((48 + n : Nat) : Int) := Int.emod_eq_of_lt (by omega) (by
      have : ((2 : Int) ^ 8) = 256 := by decide
      omega)
    simpa using e
  rw [h1, h2, Int.toNat_natCast]

def c_spec_l4Dec : C := (.seq (.ops [⟨(some 2), none, (.mv (.c (.t (.str []))))⟩]) (.seq (.seq (.ops [⟨(some 3), none, (.mv (.t 0))⟩, ⟨(some 4), none, (.bin .lss (.t 3) (.c (.t (.int .i64 10))))⟩]) (.cond (.t 4) (.seq (.ops [⟨(some 5), none, (.mv (.t 0))⟩, ⟨(some 6), none, (.bin .add (.c (.t (.int .i64 48))) (.t 5))⟩, ⟨(some 7), none, (.convInt .u8 (.t 6))⟩, ⟨(some 8), none, (.lit none 1 1 [(.t (.int .u8 0))] [⟨0, (.t 7)⟩])⟩, ⟨(some 9), none, (.bytesStr (.t 8))⟩, ⟨(some 2), none, (.mv (.t 9))⟩]) .ret) .skip)) (.seq (.drawn [(.mk 0 false ⟨(some 10), none, (.mv (.t 0))⟩ []), (.mk 1 false ⟨(some 11), none, (.bin .quo (.t 10) (.c (.t (.int .i64 10))))⟩ []), (.mk 3 false ⟨(some 13), none, (.mv (.t 0))⟩ []), (.mk 4 false ⟨(some 14), none, (.bin .rem (.t 13) (.c (.t (.int .i64 10))))⟩ []), (.mk 5 false ⟨(some 15), none, (.bin .add (.c (.t (.int .i64 48))) (.t 14))⟩ []), (.mk 6 false ⟨(some 16), none, (.convInt .u8 (.t 15))⟩ []), (.mk 7 false ⟨(some 17), none, (.lit (some false) 1 1 [(.t (.int .u8 0))] [⟨0, (.t 16)⟩])⟩ []), (.mk 8 false ⟨(some 18), none, (.bytesStr (.t 17))⟩ []), (.mk 2 true ⟨(some 12), none, (.call (.c (.fn (.func 65) [])) [(.t 11)])⟩ [⟨(some 18), none, (.bytesStr (.t 17))⟩]), (.mk 9 false ⟨(some 19), none, (.bin .add (.t 12) (.t 18))⟩ []), (.mk 10 false ⟨(some 2), none, (.mv (.t 19))⟩ [])]) .ret)))
theorem k_spec_l4Dec : comp Tryd.prog 20 (Tryd.f65.body.getD .skip) = some c_spec_l4Dec := by kernel_rfl

theorem spec_l4Dec : ∀ (n : Nat), n < 2 ^ 62 → ∀ σ : Store, ACalls Tryd.prog 65 [.t (.int .i64 (n : Nat))] σ fun rr σ' => rr = .t (.str (Lib.decDigits n)) ∧ σ' = σ := by
  intro n
  induction n using Nat.strongRecOn with
  | _ n ih =>
  intro hn σ
  refine acalls_of Tryd.func65 (by decide +kernel) (code := Tryd.f65.body.getD .skip) (n := 20) (c := c_spec_l4Dec) (rs := [(.tmp 2)]) rfl rfl k_spec_l4Dec (by kernel_rfl) (by simp) (fun hσ => ?_)
  have fin : ∀ {u : V} {τ : Store}, u = .t (.str (Lib.decDigits n)) → u.lt σ.length = true → retV σ.length (fun rr σ' => rr = .t (.str (Lib.decDigits n)) ∧ σ' = σ) (σ ++ τ) (some [u]) := fun h h2 => ret_same rfl hσ h2 ⟨h, rfl⟩
  have fin0 : ∀ {u : V}, u = .t (.str (Lib.decDigits n)) → retV σ.length (fun rr σ' => rr = .t (.str (Lib.decDigits n)) ∧ σ' = σ) σ (some [u]) := fun h => ret_same0 rfl ⟨h, rfl⟩
  simp -implicitDefEqProofs only [c_spec_l4Dec, S0, S1, S2, S3, S4, S5, S6, S7, S8, S9, S10, S11, S12, S13, S14, S15, S16, S17, opv, opvs, eget, env0, setD, lenStr, lenSl, isNilP, isNilS, putAt, if_true, if_false, reduceCtorEq, Nat.reduceLeDiff, Nat.reduceEqDiff, Nat.reduceSub, Nat.reduceMul, Nat.reduceAdd]
  refine cond_split (fun h => ?_) (fun h => ?_)
  · have hl : n < 10 := by simp at h; omega
    simp -implicitDefEqProofs only [S0, S1, S2, S3, S4, S5, S6, S7, S8, S9, S10, S11, S12, S13, S14, S15, S16, S17, opv, opvs, eget, env0, setD, lenStr, lenSl, isNilP, isNilS, putAt, if_true, if_false, reduceCtorEq, Nat.reduceLeDiff, Nat.reduceEqDiff, Nat.reduceSub, Nat.reduceMul, Nat.reduceAdd]
    refine ⟨by omega, lit_rows ?_⟩
    simp -implicitDefEqProofs only [q_rows_r, Option.map_some, S0, S1, S2, S3, S4, S5, S6, S7, S8, S9, S10, S11, S12, S13, S14, S15, S16, S17, opv, opvs, eget, env0, setD, lenStr, lenSl, isNilP, isNilS, putAt, if_true, if_false, reduceCtorEq, Nat.reduceLeDiff, Nat.reduceEqDiff, Nat.reduceSub, Nat.reduceMul, Nat.reduceAdd]
    exact fin0 (by rw [dec_one hl]; simp only [dg_wrap hl])
  · have hl : ¬ n < 10 := by simp at h; omega
    have hq : IntKind.i64.wrap ((n : Int).tdiv 10) = ((n / 10 : Nat) : Int) := by
      rw [show (n : Int).tdiv 10 = ((n / 10 : Nat) : Int) by rw [Int.tdiv_eq_ediv_of_nonneg (by omega)]; omega]
      exact IntWalk.i64_in _ (by omega)
    have hr : (n : Int).tmod 10 = ((n % 10 : Nat) : Int) := by
      rw [Int.tmod_eq_emod_of_nonneg (by omega)]; omega
    have hten : ((10 : Int) ≠ 0) = True := by simp
    have hdl := dec_len (n / 10)
    simp -implicitDefEqProofs only [hten, hq, hr, true_and, S0, S1, S2, S3, S4, S5, S6, S7, S8, S9, S10, S11, S12, S13, S14, S15, S16, S17, opv, opvs, eget, env0, setD, lenStr, lenSl, isNilP, isNilS, putAt, if_true, if_false, reduceCtorEq, Nat.reduceLeDiff, Nat.reduceEqDiff, Nat.reduceSub, Nat.reduceMul, Nat.reduceAdd]
    refine ⟨by omega, ?_⟩
    have hdg := dg_wrap (n := n % 10) (Nat.mod_lt _ (by omega))
    simp -implicitDefEqProofs only [q_rows_r, Option.map_some, hdg, S0, S1, S2, S3, S4, S5, S6, S7, S8, S9, S10, S11, S12, S13, S14, S15, S16, S17, opv, opvs, eget, env0, setD, lenStr, lenSl, isNilP, isNilS, putAt, if_true, if_false, reduceCtorEq, Nat.reduceLeDiff, Nat.reduceEqDiff, Nat.reduceSub, Nat.reduceMul, Nat.reduceAdd]
    refine call_pure (ih (n / 10) (by omega) (by omega) _) ?_
    have hln : (((Lib.decDigits (n / 10)).length + 1 : Nat) : Int) ≤ 9223372036854775807 := by omega
    simp -implicitDefEqProofs only [q_rows_r, Option.map_some, hdg, hln, List.length_cons, List.length_nil, Nat.zero_add, S0, S1, S2, S3, S4, S5, S6, S7, S8, S9, S10, S11, S12, S13, S14, S15, S16, S17, opv, opvs, eget, env0, setD, lenStr, lenSl, isNilP, isNilS, putAt, if_true, if_false, reduceCtorEq, Nat.reduceLeDiff, Nat.reduceEqDiff, Nat.reduceSub, Nat.reduceMul, Nat.reduceAdd]
    first | exact fin0 (by rw [dec_step hl]) | exact fin (by rw [dec_step hl]) rfl

end Go.Proofs.YtcjchimenfadkaaDoor.W

end


section
open Go Go.Ab
set_option maxHeartbeats 2000000
namespace Go.Proofs.YtcjchimenfadkaaDoor.W
def zAct : List V := [.t (.int .i64 0), .t (.str []), .t (.str []), .t (.str [])]
def uncV (tm : List GateTeam) (rules : List GateRule) (r : GateRule) : V := .tup [.agg (uncA tm rules r).vs, .t (.bool (uncB tm rules r))]
theorem unc_no {tm : List GateTeam} {rules : List GateRule} {r : GateRule} (h : uncB tm rules r = false) : uncV tm rules r = .tup [.agg zAct, .t (.bool false)] := by
  rw [uncV, uncA, h, if_neg (by simp)]; rfl
theorem unc_ok {tm : List GateTeam} {rules : List GateRule} {r : GateRule} (h : uncB tm rules r = true) : uncV tm rules r = .tup [.agg [.t (.int .i64 (lackOf tm rules r r.Verbs)), .t (.str (if r.Kind = [] then newN [107] (kindsR rules) else r.Kind)), .t (.str (if r.Team = [] then newN [116] (teamsR rules tm) else r.Team)), .t (.str r.Prefix)], .t (.bool true)] := by
  rw [uncV, uncA, h, if_pos rfl]
end Go.Proofs.YtcjchimenfadkaaDoor.W

end
