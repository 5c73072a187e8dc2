/- A function that only reads, proved over frozen trees, may be called with slices of the program's own. Conditions: none (a library of lemmas). -/
import Derived.Test.YtleilaipdhmgeaaAbL
set_option linter.unusedSimpArgs false
set_option linter.unusedVariables false
set_option linter.defProp false
namespace Go.Ab

mutual
/-- Over the store σ the value shows this tree. -/
def Sees (σ : Store) : T → V → Prop
  | .int k n, v => v = .t (.int k n)
  | .bool b, v => v = .t (.bool b)
  | .str s, v => v = .t (.str s)
  | .lst sz rows, v => ∃ rs, rowsOf σ sz v = some rs ∧ SeesRows σ rows rs ∧ 0 < sz
def SeesRows (σ : Store) : List (List T) → List (List V) → Prop
  | [], rs => rs = []
  | r :: rows, rs => ∃ u us, rs = u :: us ∧ SeesL σ r u ∧ SeesRows σ rows us
def SeesL (σ : Store) : List T → List V → Prop
  | [], us => us = []
  | t :: ts, us => ∃ u us', us = u :: us' ∧ Sees σ t u ∧ SeesL σ ts us'
end
/-- An argument: a struct's cells, or one value. -/
def SeesA (σ : Store) (v u : V) : Prop := (∃ t, v = .t t ∧ Sees σ t u) ∨ ∃ ts us, v = .agg (ts.map .t) ∧ u = .agg us ∧ SeesL σ ts us
def SeesAs (σ : Store) : List V → List V → Prop
  | [], us => us = []
  | v :: vs, us => ∃ u us', us = u :: us' ∧ SeesA σ v u ∧ SeesAs σ vs us'

theorem rowsOf_cap {x : Cx} {sz : Nat} {u : V} {v : Value} {rs : List (List V)} (h : rowsOf x.σ sz u = some rs) (hr : VRel x u v) : ∃ ad n c, v = .slice ad n c ∧ n ≤ c := by
  unfold rowsOf at h
  split at h
  · simp only [VRel] at hr; exact ⟨_, _, _, hr, Nat.le_refl _⟩
  · simp only [VRel, TRel] at hr
    obtain ⟨a, c, hv, hc, _⟩ := hr
    exact ⟨_, _, _, hv, hc⟩
  · simp only [VRel] at hr
    obtain ⟨a, hv, _⟩ := hr
    exact ⟨_, _, _, hv, Nat.le_refl _⟩
  · simp only [VRel] at hr
    obtain ⟨_, _, _, a, c, hv, hc, _⟩ := hr
    exact ⟨_, _, _, hv, hc⟩
  · cases h

section
variable {x : Cx}
theorem SeesRows.len {σ : Store} : ∀ {rows : List (List T)} {rs : List (List V)}, SeesRows σ rows rs → rows.length = rs.length
  | [], rs, h => by simp only [SeesRows] at h; subst h; rfl
  | r :: rows, rs, h => by
    simp only [SeesRows] at h
    obtain ⟨u, us, rfl, _, h⟩ := h
    simp [SeesRows.len h]
theorem SeesL.len {σ : Store} : ∀ {ts : List T} {us : List V}, SeesL σ ts us → ts.length = us.length
  | [], rs, h => by simp only [SeesL] at h; subst h; rfl
  | r :: rows, rs, h => by
    simp only [SeesL] at h
    obtain ⟨u, us, rfl, _, h⟩ := h
    simp [SeesL.len h]

mutual
theorem sees_rel (hx : WRel x) : ∀ (t : T) (u : V) (c : Value), Sees x.σ t u → VRel x u c → TRel (· < x.w.heap.size) x.w t c
  | .int k n, u, c, h, hr => by simp only [Sees] at h; subst h; simpa [VRel, TRel] using hr
  | .bool b, u, c, h, hr => by simp only [Sees] at h; subst h; simpa [VRel, TRel] using hr
  | .str s, u, c, h, hr => by simp only [Sees] at h; subst h; simpa [VRel, TRel] using hr
  | .lst sz rows, u, c, h, hr => by
    simp only [Sees] at h
    obtain ⟨rs, h1, h2, hpos⟩ := h
    obtain ⟨ad, cp, hv, hrel⟩ := rowsOf_rel hx h1 hr
    obtain ⟨ad', n', c', hv', hle⟩ := rowsOf_cap h1 hr
    rw [hv] at hv'
    simp only [Value.slice.injEq] at hv'
    obtain ⟨rfl, rfl, rfl⟩ := hv'
    have hlen := h2.len
    simp only [TRel]
    refine ⟨ad, cp, by rw [hlen]; exact hv, by omega, ?_⟩
    by_cases h0 : rows.length = 0
    · exact .inl h0
    · rcases hrel with rfl | ⟨b, off, l, rfl, g1, g2, g3, g4⟩
      · simp at hlen; exact (h0 (by simp [hlen])).elim
      · refine .inr ⟨b, off, rfl, ?_, sees_rows hx rows rs b off l h2 g1 g2 g3⟩
        have hll := flat_len' g1 g2
        have : l[0]? = some (l[0]'(by rw [hll]; exact Nat.mul_pos (by omega) hpos)) := by simp
        have hc := g3 0 _ this
        exact World.block_lt_of_cell? x.w _ hc
theorem sees_rows (hx : WRel x) : ∀ (rows : List (List T)) (rs : List (List V)) (b off : Nat) (l : List Value) {sz : Nat}, SeesRows x.σ rows rs → (∀ r ∈ rs, r.length = sz) → VsRel x rs.flatten l → (∀ j v, l[j]? = some v → x.w.cell? ⟨b, off + j, none⟩ = some v) → TRows (· < x.w.heap.size) x.w sz rows b off
  | [], rs, b, off, l, sz, _, _, _, _ => by simp [TRows]
  | r :: rows, rs, b, off, l, sz, h, h1, h2, h3 => by
    simp only [SeesRows] at h
    obtain ⟨u, us, rfl, hr, h⟩ := h
    have hu : u.length = sz := h1 u (by simp)
    have ht := (show VsRel x (u ++ us.flatten) l by simpa using h2).take sz
    have hd := (show VsRel x (u ++ us.flatten) l by simpa using h2).drop sz
    rw [← hu, List.take_left] at ht
    rw [← hu, List.drop_left] at hd
    simp only [TRows]
    refine ⟨by rw [hr.len]; exact hu, sees_cells hx r u b off _ hr ht (fun j v hj => ?_), sees_rows hx rows us b (off + sz) _ h (fun r hm => h1 r (by simp [hm])) hd (fun j v hj => ?_)⟩
    · rw [List.getElem?_take] at hj
      split at hj
      · exact h3 j v hj
      · cases hj
    · rw [List.getElem?_drop] at hj
      have := h3 _ v hj
      rw [← hu, show off + u.length + j = off + (u.length + j) by omega]
      exact this
theorem sees_cells (hx : WRel x) : ∀ (r : List T) (u : List V) (b off : Nat) (l : List Value), SeesL x.σ r u → VsRel x u l → (∀ j v, l[j]? = some v → x.w.cell? ⟨b, off + j, none⟩ = some v) → TCells (· < x.w.heap.size) x.w r b off
  | [], u, b, off, l, _, _, _ => by simp [TCells]
  | t :: ts, us, b, off, l, h, h2, h3 => by
    simp only [SeesL] at h
    obtain ⟨u, us', rfl, hu, h⟩ := h
    simp only [VsRel] at h2
    obtain ⟨c, cs, rfl, hc, h2⟩ := h2
    simp only [TCells]
    refine ⟨⟨c, by simpa using h3 0 c rfl, sees_rel hx t u c hu hc⟩, sees_cells hx ts us' b (off + 1) cs h h2 fun j v hj => ?_⟩
    rw [show off + 1 + j = off + (j + 1) by omega]
    exact h3 (j + 1) v (by simpa using hj)
end

theorem seesL_rel (hx : WRel x) : ∀ {ts : List T} {us : List V} {l : List Value}, SeesL x.σ ts us → VsRel x us l → VsRel (Cx.start x.w) (ts.map .t) l
  | [], us, l, h, hr => by simp only [SeesL] at h; subst h; simpa [VsRel] using hr
  | t :: ts, us, l, h, hr => by
    simp only [SeesL] at h
    obtain ⟨u, us', rfl, hu, h⟩ := h
    simp only [VsRel] at hr
    obtain ⟨c, cs, rfl, hc, hr⟩ := hr
    simp only [List.map_cons, VsRel]
    exact ⟨c, cs, rfl, (by simp only [VRel]; exact sees_rel hx t u c hu hc), seesL_rel hx h hr⟩
theorem seesA_rel (hx : WRel x) {v u : V} {c : Value} (h : SeesA x.σ v u) (hr : VRel x u c) : VRel (Cx.start x.w) v c := by
  rcases h with ⟨t, rfl, h⟩ | ⟨ts, us, rfl, rfl, h⟩
  · simp only [VRel]; exact sees_rel hx t u c h hr
  · simp only [VRel] at hr ⊢
    obtain ⟨l, hc, hl⟩ := hr
    exact ⟨l, hc, seesL_rel hx h hl⟩
theorem seesAs_rel (hx : WRel x) : ∀ {vs us : List V} {l : List Value}, SeesAs x.σ vs us → VsRel x us l → VsRel (Cx.start x.w) vs l
  | [], us, l, h, hr => by simp only [SeesAs] at h; subst h; simpa [VsRel] using hr
  | v :: vs, us, l, h, hr => by
    simp only [SeesAs] at h
    obtain ⟨u, us', rfl, hu, h⟩ := h
    simp only [VsRel] at hr
    obtain ⟨c, cs, rfl, hc, hr⟩ := hr
    simp only [VsRel]
    exact ⟨c, cs, rfl, seesA_rel hx hu hc, seesAs_rel hx h hr⟩

def scalar : T → Bool
  | .lst _ _ => false
  | _ => true

theorem acalls_borrow {P : Program} {f : FuncId} {vs us : List V} {σ : Store} {R : T → Prop} (h : ACalls P f vs [] fun r _ => ∃ y, r = .t y ∧ scalar y = true ∧ R y) (hs : SeesAs σ vs us) : ACalls P f us σ fun r σ' => (∃ y, r = .t y ∧ scalar y = true ∧ R y) ∧ σ' = σ := by
  refine ⟨h.1, fun x cargs hσ hx ha => ?_⟩
  subst hσ
  have := h.2 (Cx.start x.w) cargs rfl (wrel_start x.w) (seesAs_rel hx hs ha)
  refine Calls.mono this ?_
  rintro e w' ⟨v, y, r, rfl, rfl, ⟨t, rfl, hsc, hR⟩, hv, hy, hxy⟩
  have hblk : ∀ b, b < x.w.heap.size → y.w.heap[b]? = x.w.heap[b]? := fun b hb => hxy.block b hb
  have hext : Ext x { x with w := y.w } := ⟨hxy.os, hxy.tape, hxy.output, hxy.size, fun _ h => h, fun b hb => hblk b (hx.low b hb), fun id o ho => ⟨o, ho, o.like_refl, Nat.le_refl _, fun _ => rfl⟩⟩
  refine ⟨v, { x with w := y.w }, .t t, rfl, rfl, ⟨⟨t, rfl, hsc, hR⟩, rfl⟩, ?_, ⟨fun id o ho => ?_, hx.inj, fun b hb => Nat.lt_of_lt_of_le (hx.low b hb) hxy.size⟩, hext⟩
  · cases t with
    | lst _ _ => cases hsc
    | _ => simpa [VRel, TRel] using hv
  · exact ORel.keep hext rfl (fun b _ hlt hf => ⟨hblk b hlt, hf⟩) (hx.objs id o ho)
end
end Go.Ab
