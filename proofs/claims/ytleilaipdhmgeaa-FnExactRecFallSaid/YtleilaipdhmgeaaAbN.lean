/- The same for functions whose result is made anew: proved over frozen trees, called with slices of the program's own. Conditions: none (a library of lemmas). -/
import Derived.Test.YtleilaipdhmgeaaAbM
set_option linter.unusedSimpArgs false
set_option linter.unusedVariables false
set_option linter.defProp false
namespace Go.Ab

def T.free : T → Bool
  | .lst _ _ => false
  | _ => true
mutual
/-- It names objects from number n on alone, and nothing that is frozen. -/
def V.free (n : Nat) : V → Bool
  | .t x => x.free
  | .nils => true
  | .nilp => true
  | .nilf => true
  | .nili => true
  | .pv _ => false
  | .ptr id _ => decide (n ≤ id)
  | .ep id _ _ _ => decide (n ≤ id)
  | .sl id _ _ _ => decide (n ≤ id)
  | .map id => decide (n ≤ id)
  | .rows _ _ => false
  | .agg cs => V.frees n cs
  | .tup cs => V.frees n cs
  | .fn _ cs => V.frees n cs
  | .iface _ u => u.free n
def V.frees (n : Nat) : List V → Bool
  | [] => true
  | u :: us => u.free n && V.frees n us
end
def V.freess (n : Nat) (rs : List (List V)) : Bool := rs.all (V.frees n)
def Obj.free (n : Nat) : Obj → Bool
  | .box cs => V.frees n cs
  | .slc _ rows => V.freess n rows
  | .map _ es => es.all fun p => p.k.free n && p.v.free n

/-- Two contexts that agree on the objects from n on. -/
structure Agree (n : Nat) (y z : Cx) : Prop where
  σ : ∀ i, n ≤ i → z.σ[i]? = y.σ[i]?
  ρ : ∀ i, n ≤ i → z.ρ i = y.ρ i
  w : z.w = y.w

mutual
theorem VRel.free {n : Nat} {y z : Cx} (h : Agree n y z) : ∀ (u : V) (v : Value), u.free n = true → VRel y u v → VRel z u v
  | .t x, v, hf, hr => by cases x <;> simp [V.free, T.free] at hf <;> simpa [VRel, TRel] using hr
  | .nils, _, _, hr => by simpa [VRel] using hr
  | .nilp, _, _, hr => by simpa [VRel] using hr
  | .nilf, _, _, hr => by simpa [VRel] using hr
  | .nili, _, _, hr => by simpa [VRel] using hr
  | .pv _, _, hf, _ => by simp [V.free] at hf
  | .rows _ _, _, hf, _ => by simp [V.free] at hf
  | .ptr id off, v, hf, hr => by
    simp only [V.free, decide_eq_true_eq] at hf
    simp only [VRel, h.σ id hf, h.ρ id hf] at hr ⊢
    exact hr
  | .ep id g i j, v, hf, hr => by
    simp only [V.free, decide_eq_true_eq] at hf
    simp only [VRel, h.σ id hf, h.ρ id hf] at hr ⊢
    exact hr
  | .sl id g off len, v, hf, hr => by
    simp only [V.free, decide_eq_true_eq] at hf
    simp only [VRel, h.σ id hf, h.ρ id hf] at hr ⊢
    exact hr
  | .map id, v, hf, hr => by
    simp only [V.free, decide_eq_true_eq] at hf
    simp only [VRel, h.σ id hf, h.ρ id hf] at hr ⊢
    exact hr
  | .agg cs, v, hf, hr => by
    simp only [V.free] at hf
    simp only [VRel] at hr ⊢
    obtain ⟨l, hv, hl⟩ := hr
    exact ⟨l, hv, VsRel.free h cs l hf hl⟩
  | .tup cs, v, hf, hr => by
    simp only [V.free] at hf
    simp only [VRel] at hr ⊢
    obtain ⟨l, hv, hl⟩ := hr
    exact ⟨l, hv, VsRel.free h cs l hf hl⟩
  | .fn f cs, v, hf, hr => by
    simp only [V.free] at hf
    simp only [VRel] at hr ⊢
    obtain ⟨l, hv, hl⟩ := hr
    exact ⟨l, hv, VsRel.free h cs l hf hl⟩
  | .iface ty u, v, hf, hr => by
    simp only [V.free] at hf
    simp only [VRel] at hr ⊢
    obtain ⟨c, hv, hc⟩ := hr
    exact ⟨c, hv, VRel.free h u c hf hc⟩
theorem VsRel.free {n : Nat} {y z : Cx} (h : Agree n y z) : ∀ (us : List V) (l : List Value), V.frees n us = true → VsRel y us l → VsRel z us l
  | [], l, _, hr => by simpa [VsRel] using hr
  | u :: us, l, hf, hr => by
    simp only [V.frees, Bool.and_eq_true] at hf
    simp only [VsRel] at hr ⊢
    obtain ⟨c, cs, hl, hc, hcs⟩ := hr
    exact ⟨c, cs, hl, VRel.free h u c hf.1 hc, VsRel.free h us cs hf.2 hcs⟩
end
theorem frees_app {n : Nat} : ∀ {a b : List V}, V.frees n a = true → V.frees n b = true → V.frees n (a ++ b) = true
  | [], _, _, h => h
  | u :: us, b, h, k => by
    simp only [V.frees, Bool.and_eq_true, List.cons_append] at h ⊢
    exact ⟨h.1, frees_app h.2 k⟩
theorem frees_flat {n : Nat} : ∀ {rs : List (List V)}, V.freess n rs = true → V.frees n rs.flatten = true
  | [], _ => rfl
  | r :: rs, h => by
    simp only [V.freess, List.all_cons, Bool.and_eq_true] at h
    simp only [List.flatten_cons]
    exact frees_app h.1 (frees_flat h.2)

def dead (n : Nat) : Store := List.replicate n (.slc 0 [])
def Cx.dead (n : Nat) (w : World) : Cx := ⟨fun _ => ⟨none, 0⟩, (· < w.heap.size), Ab.dead n, w⟩
theorem wrel_dead (n : Nat) (w : World) : WRel (Cx.dead n w) := by
  refine ⟨fun id o h => ?_, fun i j b _ _ _ h => by simp [Cx.dead] at h, fun b h => h⟩
  have : o = .slc 0 [] := by
    have := List.mem_of_getElem? h
    exact List.eq_of_mem_replicate this
  subst this
  exact .inl ⟨rfl, rfl⟩

section
variable {x : Cx}
theorem sees_rel_dead (n : Nat) {v : V} {c : Value} (h : VRel (Cx.start x.w) v c) (hs : (∃ t, v = .t t) ∨ ∃ ts : List T, v = .agg (ts.map .t)) : VRel (Cx.dead n x.w) v c := by
  rcases hs with ⟨t, rfl⟩ | ⟨ts, rfl⟩
  · simp only [VRel] at h ⊢; exact h
  · simp only [VRel] at h ⊢
    obtain ⟨l, hc, hl⟩ := h
    refine ⟨l, hc, ?_⟩
    clear hc
    induction ts generalizing l with
    | nil => simpa [VsRel] using hl
    | cons t ts ih =>
      simp only [List.map_cons, VsRel] at hl ⊢
      obtain ⟨c, cs, rfl, h1, h2⟩ := hl
      exact ⟨c, cs, rfl, (by simp only [VRel] at h1 ⊢; exact h1), ih _ h2⟩
theorem seesAs_rel_dead (n : Nat) (hx : WRel x) : ∀ {vs us : List V} {l : List Value}, SeesAs x.σ vs us → VsRel x us l → VsRel (Cx.dead n x.w) vs l
  | [], us, l, h, hr => by simp only [SeesAs] at h; subst h; simpa [VsRel] using hr
  | v :: vs, us, l, h, hr => by
    simp only [SeesAs] at h
    obtain ⟨u, us', rfl, hu, h⟩ := h
    simp only [VsRel] at hr
    obtain ⟨c, cs, rfl, hc, hr⟩ := hr
    simp only [VsRel]
    refine ⟨c, cs, rfl, sees_rel_dead n (seesA_rel hx hu hc) ?_, seesAs_rel_dead n hx h hr⟩
    rcases hu with ⟨t, rfl, _⟩ | ⟨ts, us, rfl, _⟩
    · exact .inl ⟨t, rfl⟩
    · exact .inr ⟨ts, rfl⟩

/-- What is made anew behind dead objects is made anew behind living ones. -/
theorem acalls_anew {P : Program} {f : FuncId} {vs us : List V} {σ : Store} {R : V → Store → Prop}
    (h : ACalls P f vs (dead σ.length) fun r σ' => ∃ τ, σ' = dead σ.length ++ τ ∧ r.free σ.length = true ∧ (τ.all (Obj.free σ.length)) = true ∧ R r τ) (hs : SeesAs σ vs us) :
    ACalls P f us σ fun r σ' => ∃ τ, σ' = σ ++ τ ∧ R r τ := by
  refine ⟨h.1, fun x cargs hσ hx ha => ?_⟩
  subst hσ
  have := h.2 (Cx.dead x.σ.length x.w) cargs rfl (wrel_dead _ x.w) (seesAs_rel_dead _ hx hs ha)
  refine Calls.mono this ?_
  rintro e w' ⟨v, y, r, rfl, rfl, ⟨τ, hτ, hfr, hfo, hR⟩, hv, hy, hxy⟩
  have hdl : (dead x.σ.length).length = x.σ.length := by simp [dead]
  have hyF : ∀ b, b < x.w.heap.size → y.F b := fun b hb => hxy.F b hb
  have hblk : ∀ b, b < x.w.heap.size → y.w.heap[b]? = x.w.heap[b]? := fun b hb => hxy.block b hb
  have hylen : y.σ.length = x.σ.length + τ.length := by rw [hτ]; simp [hdl]
  -- the context behind the call
  have hag : Agree x.σ.length y { ρ := fun i => if i < x.σ.length then x.ρ i else y.ρ i, F := x.F, σ := x.σ ++ τ, w := y.w } := by
    refine ⟨fun i hi => ?_, fun i hi => by simp [show ¬ i < x.σ.length by omega], rfl⟩
    rw [hτ]
    show (x.σ ++ τ)[i]? = _
    rw [List.getElem?_append_right hi, List.getElem?_append_right (by rw [hdl]; exact hi), hdl]
  have hext : Ext x { ρ := fun i => if i < x.σ.length then x.ρ i else y.ρ i, F := x.F, σ := x.σ ++ τ, w := y.w } :=
    ⟨hxy.os, hxy.tape, hxy.output, hxy.size, fun _ h => h, fun b hb => hblk b (hx.low b hb), fun id o ho => by
      have hid := (List.getElem?_eq_some_iff.1 ho).1
      exact ⟨o, by show (x.σ ++ τ)[id]? = _; rw [List.getElem?_append_left hid]; exact ho, o.like_refl, Nat.le_refl _, fun _ => by simp [hid]⟩⟩
  have hnewblk : ∀ i b o, x.σ.length ≤ i → y.σ[i]? = some o → (y.ρ i).blk = some b → x.w.heap.size ≤ b := by
    intro i b o hi ho hb
    have := (ORel.blk_lt (hy.objs i o ho) hb).2
    rcases Nat.lt_or_ge b x.w.heap.size with h' | h'
    · exact (this (hyF b h')).elim
    · exact h'
  have hget : ∀ i, i < (x.σ ++ τ).length → x.σ.length ≤ i → ∃ o, y.σ[i]? = some o := by
    intro i hi h'
    simp only [List.length_append] at hi
    exact ⟨y.σ[i]'(by omega), by simp⟩
  refine ⟨v, { ρ := fun i => if i < x.σ.length then x.ρ i else y.ρ i, F := x.F, σ := x.σ ++ τ, w := y.w }, r, rfl, rfl, ⟨τ, rfl, hR⟩, VRel.free hag r v hfr hv, ⟨fun id o ho => ?_, fun i j b hij hi hj hb => ?_, fun b hb => Nat.lt_of_lt_of_le (hx.low b hb) hxy.size⟩, hext⟩
  · by_cases hid : id < x.σ.length
    · have ho' : x.σ[id]? = some o := by
        have : (x.σ ++ τ)[id]? = some o := ho
        rwa [List.getElem?_append_left hid] at this
      exact ORel.keep hext (by simp [hid]) (fun b _ hlt hf => ⟨hblk b hlt, hf⟩) (hx.objs id o ho')
    · have hid' : x.σ.length ≤ id := by omega
      have ho' : y.σ[id]? = some o := by rw [← hag.σ id hid']; exact ho
      have hof : o.free x.σ.length = true := by
        have hm : (x.σ ++ τ)[id]? = some o := ho
        rw [List.getElem?_append_right hid'] at hm
        exact List.all_eq_true.1 hfo o (List.mem_of_getElem? hm)
      have hob := hy.objs id o ho'
      have hρ := hag.ρ id hid'
      have nF : ∀ b, (y.ρ id).blk = some b → ¬ x.F b := fun b hb hF => by
        have h1 := hnewblk id b o hid' ho' hb
        have h2 := hx.low b hF
        omega
      cases o with
      | box cs =>
        obtain ⟨b, arr, ty, fr, h1, h2, h3, h4, h5⟩ := hob
        exact ⟨b, arr, ty, fr, hρ ▸ h1, nF b h1, h3, h4, VsRel.free hag _ _ hof h5⟩
      | slc sz rows =>
        rcases hob with ⟨h1, h2⟩ | ⟨b, arr, ty, fr, l, h1, h2, h3, h4, h5, h6, h7, h8, h9⟩
        · exact .inl ⟨h1, hρ.trans h2⟩
        · exact .inr ⟨b, arr, ty, fr, l, hρ ▸ h1, nF b h1, h3, h4, hρ ▸ h5, hρ ▸ h6, h7, VsRel.free hag _ _ (frees_flat hof) h8, h9⟩
      | map c es =>
        obtain ⟨b, arr, h1, h2, h3, h4⟩ := hob
        refine ⟨b, arr, hρ ▸ h1, nF b h1, h3, ?_⟩
        have mfree : ∀ {es : List ME} {l : List MapEntry}, (es.all fun p => p.k.free x.σ.length && p.v.free x.σ.length) = true → MRel y es l → MRel { ρ := fun i => if i < x.σ.length then x.ρ i else y.ρ i, F := x.F, σ := x.σ ++ τ, w := y.w } es l := by
          intro es
          induction es with
          | nil => intro l _ h; simpa [MRel] using h
          | cons p es ih =>
            intro l hf h
            simp only [List.all_cons, Bool.and_eq_true] at hf
            simp only [MRel] at h ⊢
            obtain ⟨c, cs, hl, h1, h2, hb, h3⟩ := h
            exact ⟨c, cs, hl, VRel.free hag _ _ hf.1.1 h1, VRel.free hag _ _ hf.1.2 h2, hb, ih hf.2 h3⟩
        exact mfree hof h4
  · simp only at hb ⊢
    by_cases h1 : i < x.σ.length
    · simp only [h1, if_true] at hb
      by_cases h2 : j < x.σ.length
      · simp only [h2, if_true]; exact hx.inj i j b hij h1 h2 hb
      · simp only [h2, if_false]
        intro hb'
        obtain ⟨o, ho⟩ := hget j hj (by omega)
        have := hnewblk j b o (by omega) ho hb'
        have := (ORel.blk_lt (hx.objs i x.σ[i] (by simp [h1])) hb).1
        omega
    · simp only [h1, if_false] at hb
      obtain ⟨oi, hoi⟩ := hget i hi (by omega)
      by_cases h2 : j < x.σ.length
      · simp only [h2, if_true]
        intro hb'
        have := hnewblk i b oi (by omega) hoi hb
        have := (ORel.blk_lt (hx.objs j x.σ[j] (by simp [h2])) hb').1
        omega
      · simp only [h2, if_false]
        obtain ⟨oj, hoj⟩ := hget j hj (by omega)
        exact hy.inj i j b hij (List.getElem?_eq_some_iff.1 hoi).1 (List.getElem?_eq_some_iff.1 hoj).1 hb
end
end Go.Ab
