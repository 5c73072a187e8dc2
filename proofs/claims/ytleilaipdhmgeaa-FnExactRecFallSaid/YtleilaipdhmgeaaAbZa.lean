/- Loops whose store turns and keeps its length; lists made anew as one object; trees that are seen as they are. Conditions: none (a library of lemmas). -/
import Derived.Test.YtleilaipdhmgeaaAbZ
set_option linter.unusedSimpArgs false
set_option linter.unusedVariables false
set_option linter.defProp false
namespace Go.Ab
section
variable {X : Type} {b : Nat} {body : (Ex → St → Prop) → St → Prop} {Q : Ex → St → Prop} {e e' : Env} {σ σ' τ : Store} {ks ks' : List Nat} {vs : X → Env} {st : X → Store} {I : X → Prop} {ms : X → Nat} {x : X}
/-- A loop whose store turns: what a round makes behind its L objects goes at its end. -/
theorem loop_s (ks' ks : List Nat) (vs : X → Env) (st : X → Store) (I : X → Prop) (ms : X → Nat) (x0 : X) (L : Nat) (hL : ∀ x, (st x).length = L) (hb : b ≤ L) (hI : I x0) (hs : σ = st x0) (h1 : keep ks' e = vs x0 ++ keep ks e)
    (h3 : ∀ x, I x → body (thenK (LK b ks' ks vs st I ms e (fun _ => L) x) Q) ⟨.go, vs x ++ keep ks e, st x⟩) : LoopV b body Q ⟨.go, e, σ⟩ := by
  subst hs
  refine ⟨ks', fun _ => L, LJ ks vs st I ms e, ms x0, ?_, ⟨x0, hI, rfl, ?_⟩, ?_⟩
  · have := cut_all (e := e) (ks := ks') (σ := st x0) (b := b) (by rw [hL]; exact hb)
    rw [hL] at this; exact this
  · simp only [St.cut, h1]
    rw [List.take_of_length_le (by rw [hL]; exact Nat.le_refl _)]
  · rintro n s' ⟨x, hx, rfl, rfl⟩
    exact h3 x hx
theorem lk_s {L : Nat} (x' : X) (hL : (st x').length = L) (hb : b ≤ L) (hs : σ' = st x' ++ τ) (hm : ms x' < ms x) (hI : I x') (hσ : ltσ L (st x') = true) (hl : ltE L (keep ks' e') = true) (he : keep ks' e' = vs x' ++ keep ks e) : LK b ks' ks vs st I ms e (fun _ => L) x ⟨.go, e', σ'⟩ := by
  subst hs
  have ht : (st x' ++ τ).take L = st x' := by rw [← hL]; exact List.take_left ..
  refine ⟨⟨hb, .inr ⟨hl, ?_⟩⟩, _, hm, x', hI, rfl, ?_⟩
  · show ltσ L ((st x' ++ τ).take L) = true
    rw [ht]; exact hσ
  · simp only [St.cut, he, ht]
theorem lk_s0 {L : Nat} (x' : X) (hL : (st x').length = L) (hb : b ≤ L) (hs : σ' = st x') (hm : ms x' < ms x) (hI : I x') (he : keep ks' e' = vs x' ++ keep ks e) : LK b ks' ks vs st I ms e (fun _ => L) x ⟨.go, e', σ'⟩ := by
  subst hs
  refine ⟨?_, _, hm, x', hI, rfl, ?_⟩
  · have := cut_all (e := e') (ks := ks') (σ := st x') (b := b) (by rw [hL]; exact hb)
    rw [hL] at this; exact this
  · simp only [St.cut, he]
    rw [List.take_of_length_le (by rw [hL]; exact Nat.le_refl _)]
end

theorem lts_t (m : Nat) : ∀ r : List T, V.lts m (r.map .t) = true
  | [] => rfl
  | t :: r => by simp only [List.map_cons, V.lts, V.lt, lts_t m r, Bool.and_self]
theorem ltss_t (m : Nat) : ∀ rows : List (List T), V.ltss m (rows.map fun r => r.map .t) = true
  | [] => rfl
  | r :: rows => by simp only [List.map_cons, V.ltss, lts_t m r, ltss_t m rows, Bool.and_self]
/-- A list of flat rows as an object. -/
abbrev tObj (n : Nat) (rows : List (List T)) : Go.Ab.Obj := .slc n (rows.map fun r => r.map .t)
theorem lt_tObj (m n : Nat) (rows : List (List T)) : (tObj n rows).lt m = true := ltss_t m rows
theorem lt_st1 {σ : Store} {n : Nat} {rows : List (List T)} (hσ : ltσ σ.length σ = true) : ltσ (σ.length + 1) (σ ++ [tObj n rows]) = true := by
  rw [q_ltσ_app, ltσ_mono (Nat.le_succ _) hσ]
  simp only [ltσ, List.all_cons, List.all_nil, lt_tObj, Bool.and_self]
/-- The result is a list of flat rows, one new object. -/
def Anew (n : Nat) (rows : List (List T)) (σ : Store) (r : V) (σ' : Store) : Prop := r = .sl σ.length rows.length 0 rows.length ∧ σ' = σ ++ [tObj n rows]
theorem Anew.toR {n : Nat} {rows : List (List T)} {σ σ' : Store} {r : V} (h : Anew n rows σ r σ') (hp : 0 < n) (hs : ∀ r ∈ rows, ∀ t ∈ r, scalar t = true) : ToR (.lst n rows) σ r σ' := by
  obtain ⟨rfl, rfl⟩ := h
  refine ⟨_, [σ.length], rfl, ?_, Wi.cons (Wi.nil (a := σ.length + 1)) (by omega) (by omega) (by simp)⟩
  exact own_rows (σ := σ ++ [tObj n rows]) (id := σ.length) (n := n) hp hs (by simp)
theorem Anew.sees {n : Nat} {rows : List (List T)} {σ σ' : Store} {r : V} (h : Anew n rows σ r σ') (hp : 0 < n) : ∃ τ, σ' = σ ++ τ ∧ SeesF σ.length σ' (.lst n rows) r := by
  obtain ⟨rfl, rfl⟩ := h
  exact ⟨_, rfl, seesF_rows hp (Nat.le_refl _) (by simp) rfl⟩

mutual
/-- Rows have cells. -/
def Sh.pos : Sh → Bool
  | .sl n cs => decide (0 < n) && Sh.poss cs
  | _ => true
def Sh.poss : List Sh → Bool
  | [] => true
  | c :: cs => c.pos && Sh.poss cs
end
mutual
theorem sees_is {σ : Store} : ∀ {t : T} {c : Sh}, c.pos = true → T.is c t → Sees σ t (.t t)
  | .int _ _, _, _, _ => by simp only [Sees]
  | .bool _, _, _, _ => by simp only [Sees]
  | .str _, _, _, _ => by simp only [Sees]
  | .lst n rows, c, hc, ht => by
    cases c with
    | sl m cs =>
      simp only [T.is] at ht
      obtain ⟨rows', he, hl, hr⟩ := ht
      cases he
      simp only [Sh.pos, Bool.and_eq_true, decide_eq_true_eq] at hc
      simp only [Sees]
      exact ⟨rows.map fun r => r.map .t, by simp only [rowsOf, if_true], seesR_is hc.2 hr, hc.1⟩
    | int _ => simp only [T.is] at ht; obtain ⟨_, he, _⟩ := ht; cases he
    | bool => simp only [T.is] at ht; obtain ⟨_, he⟩ := ht; cases he
    | str => simp only [T.is] at ht; obtain ⟨_, he, _⟩ := ht; cases he
theorem seesR_is {σ : Store} : ∀ {rows : List (List T)} {cs : List Sh}, Sh.poss cs = true → (∀ r ∈ rows, T.isL cs r) → SeesRows σ rows (rows.map fun r => r.map .t)
  | [], _, _, _ => by simp [SeesRows]
  | r :: rows, cs, hc, hr => by
    simp only [List.map_cons, SeesRows]
    exact ⟨_, _, rfl, seesL_is hc (hr r (by simp)), seesR_is hc fun r' h => hr r' (by simp [h])⟩
theorem seesL_is {σ : Store} : ∀ {ts : List T} {cs : List Sh}, Sh.poss cs = true → T.isL cs ts → SeesL σ ts (ts.map .t)
  | [], _, _, _ => by simp [SeesL]
  | t :: ts, cs, hc, ht => by
    cases cs with
    | nil => simp only [T.isL] at ht; cases ht
    | cons c cs =>
      simp only [T.isL] at ht
      obtain ⟨t', ts', he, h1, h2⟩ := ht
      cases he
      simp only [Sh.poss, Bool.and_eq_true] at hc
      simp only [List.map_cons, SeesL]
      exact ⟨_, _, rfl, sees_is hc.1 h1, seesL_is hc.2 h2⟩
end
/-- A tree as an argument of a function that borrows. -/
theorem seesA_t {σ : Store} {t : T} {c : Sh} (hc : c.pos = true) (h : T.is c t) : SeesA σ (.t t) (.t t) := .inl ⟨t, rfl, sees_is hc h⟩
theorem seesA_ts {σ : Store} {ts : List T} {cs : List Sh} {v : V} (hc : Sh.poss cs = true) (h : T.isL cs ts) (hv : v = .agg (ts.map .t)) : SeesA σ v v := by
  subst hv
  exact .inr ⟨ts, _, rfl, rfl, seesL_is hc h⟩
end Go.Ab
