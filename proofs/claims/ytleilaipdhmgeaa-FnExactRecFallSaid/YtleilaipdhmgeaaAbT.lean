/- Lists of strings and of numbers as trees; when a list's tree is that of a list of structs. Conditions: none (a library of lemmas). -/
import Derived.Test.YtleilaipdhmgeaaAbS
set_option linter.unusedSimpArgs false
set_option linter.unusedVariables false
set_option linter.defProp false
namespace Go.Ab
def i64r (n : Int) : Prop := -9223372036854775808 ≤ n ∧ n ≤ 9223372036854775807
theorem wf_i64 {n : Int} (h : (Lit.int .i64 n).wf = true) : i64r n := by
  have e1 : IntKind.i64.min = -9223372036854775808 := by decide
  have e2 : IntKind.i64.max = 9223372036854775807 := by decide
  simp only [Lit.wf, Bool.and_eq_true, decide_eq_true_eq, e1, e2] at h
  exact h
def tStr (s : List UInt8) : List T := [.str s]
def tInt (n : Int) : List T := [.int .i64 n]
abbrev tStrs (l : List (List UInt8)) : T := .lst 1 (l.map tStr)
abbrev tInts (l : List Int) : T := .lst 1 (l.map tInt)
abbrev StrsOk (l : List (List UInt8)) : Prop := l.length ≤ 1048576 ∧ ∀ s ∈ l, s.length ≤ 1048576
abbrev IntsOk (l : List Int) : Prop := l.length ≤ 1048576 ∧ ∀ n ∈ l, i64r n
theorem of_rows {α : Type} {f : α → List T} {cs : List Sh} {Q : α → Prop} (hf : ∀ ts, T.isL cs ts → ∃ x, ts = f x ∧ (T.sizeL ts ≤ 1048576 → Q x)) : ∀ (rows : List (List T)), (∀ r ∈ rows, T.isL cs r) → ∃ l : List α, rows = l.map f ∧ (T.sizeR rows ≤ 1048576 → ∀ x ∈ l, Q x)
  | [], _ => ⟨[], rfl, by simp⟩
  | r :: rows, h => by
    obtain ⟨x, rfl, hx⟩ := hf r (h r (by simp))
    obtain ⟨l, rfl, hl⟩ := of_rows hf rows (fun r hr => h r (by simp [hr]))
    refine ⟨x :: l, rfl, fun hz => ?_⟩
    rw [sizeR_cons] at hz
    simpa using ⟨hx (by omega), hl (by omega)⟩
theorem of_list {α : Type} {f : α → List T} {cs : List Sh} {n : Nat} {Q : α → Prop} (hf : ∀ ts, T.isL cs ts → ∃ x, ts = f x ∧ (T.sizeL ts ≤ 1048576 → Q x)) {t : T} (h : T.is (.sl n cs) t) : ∃ l : List α, t = .lst n (l.map f) ∧ (t.size ≤ 1048576 → l.length ≤ 1048576 ∧ ∀ x ∈ l, Q x) := by
  simp only [T.is] at h
  obtain ⟨rows, rfl, hl, hr⟩ := h
  obtain ⟨l, rfl, hq⟩ := of_rows hf rows hr
  refine ⟨l, rfl, fun hz => ?_⟩
  rw [size_lst] at hz
  simp only [List.length_map] at hz
  exact ⟨by omega, hq (by omega)⟩
theorem of_strs {t : T} (h : T.is (.sl 1 [.str]) t) : ∃ l : List (List UInt8), t = .lst 1 (l.map tStr) ∧ (t.size ≤ 1048576 → StrsOk l) :=
  of_list (Q := fun s : List UInt8 => s.length ≤ 1048576) (fun ts h => by
    simp only [isL_cons, isL_nil, is_str] at h
    obtain ⟨_, _, rfl, ⟨s, rfl, _⟩, rfl⟩ := h
    refine ⟨s, rfl, fun hz => ?_⟩
    rw [sizeL_cons, size_str] at hz
    omega) h
theorem of_ints {t : T} (h : T.is (.sl 1 [.int .i64]) t) : ∃ l : List Int, t = .lst 1 (l.map tInt) ∧ (t.size ≤ 1048576 → IntsOk l) :=
  of_list (Q := i64r) (fun ts h => by
    simp only [isL_cons, isL_nil, is_int] at h
    obtain ⟨_, _, rfl, ⟨s, rfl, hw⟩, rfl⟩ := h
    exact ⟨s, rfl, fun _ => wf_i64 hw⟩) h
theorem tb {a b : Bool} (h : a = b) : V.t (T.bool a) = V.t (T.bool b) := by rw [h]
theorem ti {k : IntKind} {a b : Int} (h : a = b) : V.t (T.int k a) = V.t (T.int k b) := by rw [h]
theorem ts {a b : List UInt8} (h : a = b) : V.t (T.str a) = V.t (T.str b) := by rw [h]
theorem all_len {α : Type} {l : List α} {p : α → Bool} {k : Nat} (h : (l.take k).all p = true) (hk : k = l.length) : l.all p = true := by
  rw [hk, List.take_length] at h; exact h
theorem zip_at {α : Type} {l : List α} {k : Nat} {x : α} (h : l[k]? = some x) : l.zipIdx[k]? = some (x, k) := by
  rw [List.getElem?_zipIdx, h]; simp
/-- What a branch knows, so written that it rewrites nothing. -/
def Known (v b : Bool) : Prop := v = b
theorem cond_t {v : Bool} {A B : Tok → Prop} (h : Known v true) : condP v A B = A .go := by cases h; exact condP_true A B
theorem cond_f {v : Bool} {A B : Tok → Prop} (h : Known v false) : condP v A B = B .go := by cases h; exact condP_false A B
theorem cond_known {v : Bool} {A B : Tok → Prop} (h1 : Known v true → A .go) (h2 : Known v false → B .go) : condP v A B := cond_split h1 h2
theorem prev_of {α : Type} {l : List α} {k : Nat} {x : α} (hx : l[k]? = some x) (h : decide ((k : Int) > 0) = true) (hk : l.length ≤ 1048576) : ∃ y, l[k - 1]? = some y ∧ IntKind.i64.wrap ((k : Int) - 1) = ((k - 1 : Nat) : Int) := by
  have hk' := (List.getElem?_eq_some_iff.1 hx).1
  have h0 : 0 < k := by simpa using h
  refine ⟨l[k - 1], by simp [show k - 1 < l.length by omega], ?_⟩
  rw [show ((k - 1 : Nat) : Int) = (k : Int) - 1 by omega]
  exact IntWalk.i64_in _ (by omega)
theorem map_take_l {α β : Type} (f : α → β) (l : List α) (k : Nat) : (l.map f).take k = (l.take k).map f := List.map_take.symm
theorem map_drop_l {α β : Type} (f : α → β) (l : List α) (k : Nat) : (l.map f).drop k = (l.drop k).map f := List.map_drop.symm
theorem Own.pre {σ τ : Store} {t : T} {v : V} {is : List Nat} (h : Own σ t v is) (hp : σ <+: τ) : Own τ t v is := by
  obtain ⟨ρ, rfl⟩ := hp
  exact h.frame fun i hi => List.getElem?_append_left (h.lt i hi)
theorem OwnL.pre {σ τ : Store} {t : List T} {v : List V} {is : List Nat} (h : OwnL σ t v is) (hp : σ <+: τ) : OwnL τ t v is := by
  obtain ⟨ρ, rfl⟩ := hp
  exact h.frame fun i hi => List.getElem?_append_left (h.lt i hi)
theorem sees_one {σ : Store} {y : T} (h : scalar y = true) : SeesA σ (.t y) (.t y) :=
  .inl ⟨y, rfl, by cases y <;> simp [scalar, Sees] at h ⊢⟩
theorem sees_agg {σ τ : Store} {ts : List T} {us : List V} {is : List Nat} {v : V} (h : OwnL τ ts us is) (hv : v = .agg (ts.map .t)) (hp : τ <+: σ) : SeesA σ v (.agg us) := .inr ⟨ts, us, hv, rfl, (h.pre hp).sees⟩
theorem sees_lst {σ τ : Store} {t : T} {u : V} {is : List Nat} {v : V} (h : Own τ t u is) (hv : v = .t t) (hp : τ <+: σ) : SeesA σ v u := .inl ⟨t, hv, (h.pre hp).sees⟩
/-- A value that names no object. -/
theorem call_bor {P : Program} {f : FuncId} {us vs : List V} {σ : Store} {y : V} {K : Tok → V → Store → Prop} (h : ∀ σ, ACalls P f vs σ fun r σ' => r = y ∧ σ' = σ) (hy : y.free σ.length = true) (hs : SeesAs σ vs us) (hk : K .go y σ) : callV P σ (some (.fn (.func f) [])) (some us) K := by
  refine call_by (R := fun r σ' => ∃ τ, σ' = σ ++ τ ∧ (r = y ∧ τ = [])) (by rw [List.append_nil]; exact acalls_anew ((h _).mono fun r σ' hr => ⟨[], by simp [hr.2], by rw [hr.1]; exact hy, rfl, hr.1, rfl⟩) hs) ?_
  rintro r σ' ⟨τ, rfl, rfl, rfl⟩
  simpa using hk
end Go.Ab
