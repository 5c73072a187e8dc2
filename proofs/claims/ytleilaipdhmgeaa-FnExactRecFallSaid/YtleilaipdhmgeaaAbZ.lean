/- What was made anew may be frozen where a function ends: its callers then hold a tree. Conditions: none (a library of lemmas). -/
import Derived.Test.YtleilaipdhmgeaaAbY
set_option linter.unusedSimpArgs false
set_option linter.unusedVariables false
set_option linter.defProp false
namespace Go.Ab
mutual
/-- The value shows the tree; it names frozen cells, or objects from number n on. -/
def SeesF (n : Nat) (σ : Store) : T → V → Prop
  | .int k m, v => v = .t (.int k m)
  | .bool b, v => v = .t (.bool b)
  | .str s, v => v = .t (.str s)
  | .lst sz rows, v => v = .t (.lst sz rows) ∨ (0 < sz ∧ (∀ id g off len, v = .sl id g off len → n ≤ id) ∧ ∃ rs, rowsOf σ sz v = some rs ∧ SeesFR n σ rows rs)
def SeesFR (n : Nat) (σ : Store) : List (List T) → List (List V) → Prop
  | [], rs => rs = []
  | r :: rows, rs => ∃ u us, rs = u :: us ∧ SeesFL n σ r u ∧ SeesFR n σ rows us
def SeesFL (n : Nat) (σ : Store) : List T → List V → Prop
  | [], us => us = []
  | t :: ts, us => ∃ u us', us = u :: us' ∧ SeesF n σ t u ∧ SeesFL n σ ts us'
end
theorem SeesFR.len {n : Nat} {σ : Store} : ∀ {rows : List (List T)} {rs : List (List V)}, SeesFR n σ rows rs → rows.length = rs.length
  | [], rs, h => by simp only [SeesFR] at h; subst h; rfl
  | r :: rows, rs, h => by
    simp only [SeesFR] at h
    obtain ⟨u, us, rfl, _, h⟩ := h
    simp [h.len]
theorem SeesFL.len {n : Nat} {σ : Store} : ∀ {ts : List T} {us : List V}, SeesFL n σ ts us → ts.length = us.length
  | [], rs, h => by simp only [SeesFL] at h; subst h; rfl
  | r :: rows, rs, h => by
    simp only [SeesFL] at h
    obtain ⟨u, us, rfl, _, h⟩ := h
    simp [h.len]
theorem seesF_t {n : Nat} {σ : Store} (t : T) : SeesF n σ t (.t t) := by
  cases t with
  | lst sz rows => simp only [SeesF]; exact .inl trivial
  | _ => simp only [SeesF]
theorem seesFL_t {n : Nat} {σ : Store} : ∀ r : List T, SeesFL n σ r (r.map .t)
  | [] => by simp [SeesFL]
  | t :: r => by
    simp only [List.map_cons, SeesFL]
    exact ⟨_, _, rfl, seesF_t t, seesFL_t r⟩
theorem seesFR_t {n : Nat} {σ : Store} : ∀ rows : List (List T), SeesFR n σ rows (rows.map fun r => r.map .t)
  | [] => by simp [SeesFR]
  | r :: rows => by
    simp only [List.map_cons, SeesFR]
    exact ⟨_, _, rfl, seesFL_t r, seesFR_t rows⟩
/-- A list whose rows are trees. -/
theorem seesF_rows {n id sz : Nat} {σ : Store} {rows : List (List T)} (hp : 0 < sz) (hn : n ≤ id) (h : σ[id]? = some (.slc sz (rows.map fun r => r.map .t))) {m : Nat} (hm : m = rows.length) : SeesF n σ (.lst sz rows) (.sl id m 0 m) := by
  subst hm
  simp only [SeesF]
  refine .inr ⟨hp, (fun id' g off len e => by cases e; exact hn), rows.map fun r => r.map .t, ?_, seesFR_t rows⟩
  simp only [rowsOf, h, List.length_map, and_self, if_true, List.drop_zero]
  rw [List.take_of_length_le (by simp)]
theorem seesF_nils {n sz : Nat} {σ : Store} (hp : 0 < sz) : SeesF n σ (.lst sz []) .nils := by
  simp only [SeesF]
  exact .inr ⟨hp, (fun _ _ _ _ e => by cases e), [], by simp only [rowsOf], by simp only [SeesFR]⟩
mutual
theorem Own.seesF {n : Nat} {σ : Store} : ∀ {t : T} {v : V} {is : List Nat}, Own σ t v is → (∀ i ∈ is, n ≤ i) → SeesF n σ t v
  | .int _ _, _, _, h, _ => by simp only [Own] at h; simp only [SeesF]; exact h.1
  | .bool _, _, _, h, _ => by simp only [Own] at h; simp only [SeesF]; exact h.1
  | .str _, _, _, h, _ => by simp only [Own] at h; simp only [SeesF]; exact h.1
  | .lst sz rows, v, is, h, hn => by
    simp only [Own] at h
    simp only [SeesF]
    obtain ⟨hp, ⟨rfl, rfl, rfl | rfl⟩ | ⟨id, js, rs, rfl, rfl, h1, h2⟩⟩ := h
    · exact .inr ⟨hp, (fun _ _ _ _ e => by cases e), [], by simp only [rowsOf], by simp only [SeesFR]⟩
    · exact .inr ⟨hp, (fun _ _ _ _ e => by cases e), [], by simp [rowsOf], by simp only [SeesFR]⟩
    · refine .inr ⟨hp, (fun id' g off len e => by cases e; exact hn _ (by simp)), rs, ?_, OwnR.seesF h2 fun i hi => hn i (by simp [hi])⟩
      simp only [rowsOf, h1, and_self, if_true, List.drop_zero, List.take_length]
theorem OwnR.seesF {n : Nat} {σ : Store} : ∀ {rows : List (List T)} {rs : List (List V)} {is : List Nat}, OwnR σ rows rs is → (∀ i ∈ is, n ≤ i) → SeesFR n σ rows rs
  | [], _, _, h, _ => by simp only [OwnR] at h; simp only [SeesFR]; exact h.1
  | r :: rows, rs, is, h, hn => by
    simp only [OwnR] at h
    obtain ⟨u, us, i, j, rfl, rfl, h1, h2⟩ := h
    simp only [SeesFR]
    exact ⟨u, us, rfl, OwnL.seesF h1 fun x hx => hn x (by simp [hx]), OwnR.seesF h2 fun x hx => hn x (by simp [hx])⟩
theorem OwnL.seesF {n : Nat} {σ : Store} : ∀ {ts : List T} {us : List V} {is : List Nat}, OwnL σ ts us is → (∀ i ∈ is, n ≤ i) → SeesFL n σ ts us
  | [], _, _, h, _ => by simp only [OwnL] at h; simp only [SeesFL]; exact h.1
  | t :: ts, us, is, h, hn => by
    simp only [OwnL] at h
    obtain ⟨u, us', i, j, rfl, rfl, h1, h2⟩ := h
    simp only [SeesFL]
    exact ⟨u, us', rfl, Own.seesF h1 fun x hx => hn x (by simp [hx]), OwnL.seesF h2 fun x hx => hn x (by simp [hx])⟩
end

section
variable {y : Cx} {n : Nat}
/-- Frozen, or a block of an object from number n on. -/
def frzF (n : Nat) (y : Cx) : Nat → Prop := fun b => y.F b ∨ ∃ i, n ≤ i ∧ i < y.σ.length ∧ (y.ρ i).blk = some b

theorem rows_blk {sz : Nat} {u : V} {v : Value} {rs : List (List V)} (h : rowsOf y.σ sz u = some rs) (hr : VRel y u v) (hn : ∀ id g off len, u = .sl id g off len → n ≤ id) (h0 : rs ≠ []) {b off m c : Nat} (hv : v = .slice (some ⟨b, off, none⟩) m c) : frzF n y b := by
  subst hv
  unfold rowsOf at h
  split at h
  · obtain rfl := Option.some.inj h
    exact (h0 rfl).elim
  · rename_i s rows
    split at h
    · obtain rfl := Option.some.inj h
      simp only [VRel, TRel] at hr
      obtain ⟨a, c', hv, _, hr⟩ := hr
      simp only [Value.slice.injEq] at hv
      obtain ⟨rfl, rfl, rfl⟩ := hv
      rcases hr with hr | ⟨b', off', e, hF, _⟩
      · exact (h0 (by rw [List.eq_nil_of_length_eq_zero hr]; rfl)).elim
      · cases e
        exact .inl hF
    · cases h
  · rename_i s rows
    split at h
    · obtain rfl := Option.some.inj h
      simp only [VRel] at hr
      obtain ⟨a, hv, hr⟩ := hr
      simp only [Value.slice.injEq] at hv
      obtain ⟨rfl, rfl, rfl⟩ := hv
      rcases hr with hr | ⟨b', off', e, hF, _⟩
      · exact (h0 (List.eq_nil_of_length_eq_zero hr)).elim
      · cases e
        exact .inl hF
    · cases h
  · rename_i id g off' len
    split at h
    · rename_i s rows ho
      split at h
      · rename_i hg
        obtain rfl := Option.some.inj h
        simp only [VRel] at hr
        obtain ⟨o, ho', _, a, c', hv, _, hr⟩ := hr
        rw [ho] at ho'
        obtain rfl := Option.some.inj ho'
        simp only [Value.slice.injEq] at hv
        obtain ⟨rfl, rfl, rfl⟩ := hv
        obtain ⟨q1, q2, q3⟩ := hr hg.2
        rcases q2 with q2 | ⟨b', hb, e⟩
        · subst q2; exact (h0 (by simp)).elim
        · cases e
          exact .inr ⟨id, hn id _ _ _ rfl, (List.getElem?_eq_some_iff.1 ho).1, hb⟩
      · cases h
    · cases h
  · cases h

mutual
theorem seesF_rel (hy : WRel y) : ∀ (t : T) (u : V) (c : Value), SeesF n y.σ t u → VRel y u c → TRel (frzF n y) y.w t c
  | .int k m, u, c, h, hr => by simp only [SeesF] at h; subst h; simpa [VRel, TRel] using hr
  | .bool b, u, c, h, hr => by simp only [SeesF] at h; subst h; simpa [VRel, TRel] using hr
  | .str s, u, c, h, hr => by simp only [SeesF] at h; subst h; simpa [VRel, TRel] using hr
  | .lst sz rows, u, c, h, hr => by
    simp only [SeesF] at h
    rcases h with rfl | ⟨hpos, hn, rs, h1, h2⟩
    · simp only [VRel] at hr
      exact TRel.mono (fun b hb => .inl hb) (fun b hb => rfl) _ _ hr
    · obtain ⟨ad, cp, hv, hrel⟩ := rowsOf_rel hy h1 hr
      obtain ⟨ad', n', c', hv', hle⟩ := rowsOf_cap h1 hr
      rw [hv] at hv'
      simp only [Value.slice.injEq] at hv'
      obtain ⟨rfl, rfl, rfl⟩ := hv'
      have hlen := h2.len
      simp only [TRel]
      refine ⟨ad, cp, by rw [hlen]; exact hv, by omega, ?_⟩
      by_cases h0 : rows.length = 0
      · exact .inl h0
      · rcases hrel with rfl | ⟨b, off, l, rfl, g1, g2, g3, g4⟩
        · simp at hlen; exact (h0 (by simp [hlen])).elim
        · refine .inr ⟨b, off, rfl, rows_blk h1 hr hn (fun e => h0 (by rw [hlen, e]; rfl)) hv, seesF_rows' hy rows rs b off l h2 g1 g2 g3⟩
theorem seesF_rows' (hy : WRel y) : ∀ (rows : List (List T)) (rs : List (List V)) (b off : Nat) (l : List Value) {sz : Nat}, SeesFR n y.σ rows rs → (∀ r ∈ rs, r.length = sz) → VsRel y rs.flatten l → (∀ j v, l[j]? = some v → y.w.cell? ⟨b, off + j, none⟩ = some v) → TRows (frzF n y) y.w sz rows b off
  | [], rs, b, off, l, sz, _, _, _, _ => by simp [TRows]
  | r :: rows, rs, b, off, l, sz, h, h1, h2, h3 => by
    simp only [SeesFR] at h
    obtain ⟨u, us, rfl, hr, h⟩ := h
    have hu : u.length = sz := h1 u (by simp)
    have ht := (show VsRel y (u ++ us.flatten) l by simpa using h2).take sz
    have hd := (show VsRel y (u ++ us.flatten) l by simpa using h2).drop sz
    rw [← hu, List.take_left] at ht
    rw [← hu, List.drop_left] at hd
    simp only [TRows]
    refine ⟨by rw [hr.len]; exact hu, seesF_cells hy r u b off _ hr ht (fun j v hj => ?_), seesF_rows' hy rows us b (off + sz) _ h (fun r hm => h1 r (by simp [hm])) hd (fun j v hj => ?_)⟩
    · rw [List.getElem?_take] at hj
      split at hj
      · exact h3 j v hj
      · cases hj
    · rw [List.getElem?_drop] at hj
      have := h3 _ v hj
      rw [← hu, show off + u.length + j = off + (u.length + j) by omega]
      exact this
theorem seesF_cells (hy : WRel y) : ∀ (r : List T) (u : List V) (b off : Nat) (l : List Value), SeesFL n y.σ r u → VsRel y u l → (∀ j v, l[j]? = some v → y.w.cell? ⟨b, off + j, none⟩ = some v) → TCells (frzF n y) y.w r b off
  | [], u, b, off, l, _, _, _ => by simp [TCells]
  | t :: ts, us, b, off, l, h, h2, h3 => by
    simp only [SeesFL] at h
    obtain ⟨u, us', rfl, hu, h⟩ := h
    simp only [VsRel] at h2
    obtain ⟨c, cs, rfl, hc, h2⟩ := h2
    simp only [TCells]
    refine ⟨⟨c, by simpa using h3 0 c rfl, seesF_rel hy t u c hu hc⟩, seesF_cells hy ts us' b (off + 1) cs h h2 fun j v hj => ?_⟩
    rw [show off + 1 + j = off + (j + 1) by omega]
    exact h3 (j + 1) v (by simpa using hj)
end

/-- What a result is, frozen. -/
def FzA (n : Nat) (σ : Store) (v u : V) : Prop := (∃ t, v = .t t ∧ SeesF n σ t u) ∨ ∃ ts us, v = .agg (ts.map .t) ∧ u = .agg us ∧ SeesFL n σ ts us
def FzAs (n : Nat) (σ : Store) : List V → List V → Prop
  | [], us => us = []
  | v :: vs, us => ∃ u us', us = u :: us' ∧ FzA n σ v u ∧ FzAs n σ vs us'
def FzR (n : Nat) (σ : Store) (v u : V) : Prop := FzA n σ v u ∨ ∃ vs us, v = .tup vs ∧ u = .tup us ∧ FzAs n σ vs us

/-- The world where all that was made anew is frozen. -/
def Cx.frzAll (y : Cx) (n : Nat) : Cx := { ρ := y.ρ, F := frzF n y, σ := y.σ.take n, w := y.w }
theorem seesFL_rel (hy : WRel y) : ∀ {ts : List T} {us : List V} {l : List Value}, SeesFL n y.σ ts us → VsRel y us l → VsRel (y.frzAll n) (ts.map .t) l
  | [], us, l, h, hr => by simp only [SeesFL] at h; subst h; simpa [VsRel] using hr
  | t :: ts, us, l, h, hr => by
    simp only [SeesFL] at h
    obtain ⟨u, us', rfl, hu, h⟩ := h
    simp only [VsRel] at hr
    obtain ⟨c, cs, rfl, hc, hr⟩ := hr
    simp only [List.map_cons, VsRel]
    exact ⟨c, cs, rfl, (by simp only [VRel]; exact seesF_rel hy t u c hu hc), seesFL_rel hy h hr⟩
theorem fzA_rel (hy : WRel y) {v u : V} {c : Value} (h : FzA n y.σ v u) (hr : VRel y u c) : VRel (y.frzAll n) v c := by
  rcases h with ⟨t, rfl, h⟩ | ⟨ts, us, rfl, rfl, h⟩
  · simp only [VRel]; exact seesF_rel hy t u c h hr
  · simp only [VRel] at hr ⊢
    obtain ⟨l, hc, hl⟩ := hr
    exact ⟨l, hc, seesFL_rel hy h hl⟩
theorem fzAs_rel (hy : WRel y) : ∀ {vs us : List V} {l : List Value}, FzAs n y.σ vs us → VsRel y us l → VsRel (y.frzAll n) vs l
  | [], us, l, h, hr => by simp only [FzAs] at h; subst h; simpa [VsRel] using hr
  | v :: vs, us, l, h, hr => by
    simp only [FzAs] at h
    obtain ⟨u, us', rfl, hu, h⟩ := h
    simp only [VsRel] at hr
    obtain ⟨c, cs, rfl, hc, hr⟩ := hr
    simp only [VsRel]
    exact ⟨c, cs, rfl, fzA_rel hy hu hc, fzAs_rel hy h hr⟩
theorem fzR_rel (hy : WRel y) {v u : V} {c : Value} (h : FzR n y.σ v u) (hr : VRel y u c) : VRel (y.frzAll n) v c := by
  rcases h with h | ⟨vs, us, rfl, rfl, h⟩
  · exact fzA_rel hy h hr
  · simp only [VRel] at hr ⊢
    obtain ⟨l, hc, hl⟩ := hr
    exact ⟨l, hc, fzAs_rel hy h hl⟩

/-- A function whose result was made anew: its caller holds it frozen. -/
theorem acalls_frz {P : Program} {f : FuncId} {args : List V} {σ : Store} {Q : V → Prop} (h : ACalls P f args σ fun r σ' => ∃ τ v, σ' = σ ++ τ ∧ FzR σ.length σ' v r ∧ Q v) : ACalls P f args σ fun r σ' => Q r ∧ σ' = σ := by
  refine ⟨h.1, fun x cargs hσ hx ha => ?_⟩
  refine Calls.mono (h.2 x cargs hσ hx ha) ?_
  subst hσ
  rintro e w' ⟨v, y, r, rfl, rfl, ⟨τ, v0, hτ, hfz, hQ⟩, hv, hy, hxy⟩
  have htake : y.σ.take x.σ.length = x.σ := by rw [hτ]; exact List.take_left ..
  have hlen : y.σ.length = x.σ.length + τ.length := by rw [hτ]; simp
  have hlt : ltσ x.σ.length (y.σ.take x.σ.length) = true := by rw [htake]; exact hx.closed
  have hy1 := hy.cut hlt
  have hx1 : Ext { y with σ := y.σ.take x.σ.length } (y.frzAll x.σ.length) := ⟨rfl, rfl, rfl, Nat.le_refl _, fun b hb => .inl hb, fun _ _ => rfl, fun id o ho => ⟨o, ho, o.like_refl, Nat.le_refl _, fun _ => rfl⟩⟩
  have hin : ∀ i, i < x.σ.length → i < y.σ.length := fun i hi => by omega
  refine ⟨v, y.frzAll x.σ.length, v0, rfl, rfl, ⟨hQ, htake⟩, fzR_rel hy hfz hv, ⟨fun id o ho => ?_, fun i j b hij hi hj => ?_, fun b hb => ?_⟩, ?_⟩
  · have ho' : (y.σ.take x.σ.length)[id]? = some o := ho
    have hid : id < x.σ.length := by rw [htake] at ho'; exact (List.getElem?_eq_some_iff.1 ho').1
    refine ORel.keep hx1 rfl (fun b hb _ hF => ⟨rfl, ?_⟩) (hy1.objs id o ho')
    rintro (h' | ⟨i, h1, h2, h3⟩)
    · exact hF h'
    · exact hy.inj id i b (by omega) (hin id hid) h2 hb h3
  · have hl : ((y.frzAll x.σ.length).σ).length = x.σ.length := by show (y.σ.take x.σ.length).length = _; rw [htake]
    rw [hl] at hi hj
    exact hy.inj i j b hij (hin i hi) (hin j hj)
  · rcases hb with hb | ⟨i, h1, h2, h3⟩
    · exact hy.low b hb
    · exact (ORel.blk_lt (hy.objs i y.σ[i] (by simp [h2])) h3).1
  · refine ⟨hxy.os, hxy.tape, hxy.output, hxy.size, fun b hb => .inl (hxy.F b hb), hxy.block, fun id o ho => ⟨o, by show (y.σ.take x.σ.length)[id]? = _; rw [htake]; exact ho, o.like_refl, Nat.le_refl _, fun _ => ?_⟩⟩
    obtain ⟨o', ho', _, _, hρ⟩ := hxy.obj id o ho
    have hid := (List.getElem?_eq_some_iff.1 ho).1
    rw [hτ, List.getElem?_append_left hid, ho] at ho'
    obtain rfl := Option.some.inj ho'
    exact hρ rfl
end
section
variable {P : Program} {f : FuncId} {args : List V} {σ : Store}
theorem acalls_frz1 {t : T} (h : ACalls P f args σ fun r σ' => ∃ τ, σ' = σ ++ τ ∧ SeesF σ.length σ' t r) : ACalls P f args σ fun r σ' => r = .t t ∧ σ' = σ :=
  acalls_frz (Q := fun r => r = .t t) (h.mono fun r σ' ⟨τ, h1, h2⟩ => ⟨τ, _, h1, .inl (.inl ⟨t, rfl, h2⟩), rfl⟩)
theorem acalls_frzL {ts : List T} (h : ACalls P f args σ fun r σ' => ∃ τ us, σ' = σ ++ τ ∧ r = .agg us ∧ SeesFL σ.length σ' ts us) : ACalls P f args σ fun r σ' => r = .agg (ts.map .t) ∧ σ' = σ :=
  acalls_frz (Q := fun r => r = .agg (ts.map .t)) (h.mono fun r σ' ⟨τ, us, h1, h2, h3⟩ => ⟨τ, _, h1, .inl (.inr ⟨ts, us, rfl, h2, h3⟩), rfl⟩)
/-- What a function makes anew, its caller may hold as a tree. -/
theorem acalls_frzT {t : T} (h : ACalls P f args σ (ToR t σ)) : ACalls P f args σ fun r σ' => r = .t t ∧ σ' = σ :=
  acalls_frz1 (h.mono fun r σ' ⟨τ, is, h1, h2, h3⟩ => ⟨τ, h1, h2.seesF fun i hi => (h3.2 i hi).1⟩)
theorem acalls_frzTL {ts : List T} (h : ACalls P f args σ (ToLR ts σ)) : ACalls P f args σ fun r σ' => r = .agg (ts.map .t) ∧ σ' = σ :=
  acalls_frzL (h.mono fun r σ' ⟨us, τ, is, h0, h1, h2, h3⟩ => ⟨τ, us, h1, h0, h2.seesF fun i hi => (h3.2 i hi).1⟩)
end
end Go.Ab
