/- A function that makes its result anew may be called with slices of the program's own, whatever else it left behind. Conditions: none (a library of lemmas). -/
import Derived.Test.YtleilaipdhmgeaaAbV
set_option linter.unusedSimpArgs false
set_option linter.unusedVariables false
set_option linter.defProp false
namespace Go.Ab
mutual
/-- It names only objects of this list, and nothing that is frozen. -/
def V.cl (is : List Nat) : V → Bool
  | .t x => x.free
  | .nils => true
  | .sl id _ _ _ => is.contains id
  | .rows _ rs => rs.isEmpty
  | .agg cs => V.cls is cs
  | .tup cs => V.cls is cs
  | _ => false
def V.cls (is : List Nat) : List V → Bool
  | [] => true
  | u :: us => u.cl is && V.cls is us
end
theorem cls_app {is : List Nat} : ∀ {a b : List V}, V.cls is a = true → V.cls is b = true → V.cls is (a ++ b) = true
  | [], _, _, h => h
  | u :: us, b, h, k => by
    simp only [V.cls, Bool.and_eq_true, List.cons_append] at h ⊢
    exact ⟨h.1, cls_app h.2 k⟩
mutual
theorem V.cl_mono {is js : List Nat} (h : ∀ i ∈ is, i ∈ js) : ∀ u : V, u.cl is = true → u.cl js = true
  | .t _, k => k
  | .nils, _ => rfl
  | .sl id _ _ _, k => by simp only [V.cl, List.contains_iff_mem] at k ⊢; exact h id k
  | .rows _ _, k => k
  | .agg cs, k => by simp only [V.cl] at k ⊢; exact V.cls_mono h cs k
  | .tup cs, k => by simp only [V.cl] at k ⊢; exact V.cls_mono h cs k
  | .nilp, k => by simp [V.cl] at k
  | .nilf, k => by simp [V.cl] at k
  | .nili, k => by simp [V.cl] at k
  | .pv _, k => by simp [V.cl] at k
  | .ptr _ _, k => by simp [V.cl] at k
  | .ep _ _ _ _, k => by simp [V.cl] at k
  | .map _, k => by simp [V.cl] at k
  | .fn _ _, k => by simp [V.cl] at k
  | .iface _ _, k => by simp [V.cl] at k
theorem V.cls_mono {is js : List Nat} (h : ∀ i ∈ is, i ∈ js) : ∀ us : List V, V.cls is us = true → V.cls js us = true
  | [], _ => rfl
  | u :: us, k => by
    simp only [V.cls, Bool.and_eq_true] at k ⊢
    exact ⟨V.cl_mono h u k.1, V.cls_mono h us k.2⟩
end
structure On (is : List Nat) (y z : Cx) : Prop where
  σ : ∀ i ∈ is, z.σ[i]? = y.σ[i]?
  ρ : ∀ i ∈ is, z.ρ i = y.ρ i
  w : z.w = y.w
mutual
theorem VRel.on {is : List Nat} {y z : Cx} (h : On is y z) : ∀ (u : V) (v : Value), u.cl is = true → VRel y u v → VRel z u v
  | .t x, v, hf, hr => by cases x <;> simp [V.cl, T.free] at hf <;> simpa [VRel, TRel] using hr
  | .nils, _, _, hr => by simpa [VRel] using hr
  | .rows _ rs, _, hf, hr => by
    simp only [V.cl, List.isEmpty_iff] at hf
    subst hf
    simp only [VRel] at hr ⊢
    obtain ⟨a, hv, _⟩ := hr
    exact ⟨a, hv, .inl rfl⟩
  | .sl id g off len, v, hf, hr => by
    simp only [V.cl, List.contains_iff_mem] at hf
    simp only [VRel, h.σ id hf, h.ρ id hf] at hr ⊢
    exact hr
  | .agg cs, v, hf, hr => by
    simp only [V.cl] at hf
    simp only [VRel] at hr ⊢
    obtain ⟨l, hv, hl⟩ := hr
    exact ⟨l, hv, VsRel.on h cs l hf hl⟩
  | .tup cs, v, hf, hr => by
    simp only [V.cl] at hf
    simp only [VRel] at hr ⊢
    obtain ⟨l, hv, hl⟩ := hr
    exact ⟨l, hv, VsRel.on h cs l hf hl⟩
  | .nilp, _, k, _ => by simp [V.cl] at k
  | .nilf, _, k, _ => by simp [V.cl] at k
  | .nili, _, k, _ => by simp [V.cl] at k
  | .pv _, _, k, _ => by simp [V.cl] at k
  | .ptr _ _, _, k, _ => by simp [V.cl] at k
  | .ep _ _ _ _, _, k, _ => by simp [V.cl] at k
  | .map _, _, k, _ => by simp [V.cl] at k
  | .fn _ _, _, k, _ => by simp [V.cl] at k
  | .iface _ _, _, k, _ => by simp [V.cl] at k
theorem VsRel.on {is : List Nat} {y z : Cx} (h : On is y z) : ∀ (us : List V) (l : List Value), V.cls is us = true → VsRel y us l → VsRel z us l
  | [], l, _, hr => by simpa [VsRel] using hr
  | u :: us, l, hf, hr => by
    simp only [V.cls, Bool.and_eq_true] at hf
    simp only [VsRel] at hr ⊢
    obtain ⟨c, cs, hl, hc, hcs⟩ := hr
    exact ⟨c, cs, hl, VRel.on h u c hf.1 hc, VsRel.on h us cs hf.2 hcs⟩
end
/-- Every object of the list is a slice whose cells name the list's objects alone. -/
def ClS (is : List Nat) (σ : Store) : Prop := ∀ i ∈ is, ∃ sz rs, σ[i]? = some (.slc sz rs) ∧ V.cls is rs.flatten = true
mutual
theorem Own.cl {σ : Store} : ∀ {t : T} {v : V} {is : List Nat}, Own σ t v is → v.cl is = true ∧ ClS is σ
  | .int _ _, _, _, h => by simp only [Own] at h; obtain ⟨rfl, rfl⟩ := h; exact ⟨rfl, fun i hi => by simp at hi⟩
  | .bool _, _, _, h => by simp only [Own] at h; obtain ⟨rfl, rfl⟩ := h; exact ⟨rfl, fun i hi => by simp at hi⟩
  | .str _, _, _, h => by simp only [Own] at h; obtain ⟨rfl, rfl⟩ := h; exact ⟨rfl, fun i hi => by simp at hi⟩
  | .lst sz rows, v, is, h => by
    simp only [Own] at h
    obtain ⟨hp, ⟨rfl, rfl, rfl | rfl⟩ | ⟨id, js, rs, rfl, rfl, h1, h2⟩⟩ := h
    · exact ⟨rfl, fun i hi => by simp at hi⟩
    · exact ⟨rfl, fun i hi => by simp at hi⟩
    · obtain ⟨k1, k2⟩ := OwnR.cl h2
      refine ⟨by simp [V.cl], fun i hi => ?_⟩
      rcases List.mem_cons.1 hi with rfl | hi
      · exact ⟨sz, rs, h1, V.cls_mono (fun i hi => by simp [hi]) _ k1⟩
      · obtain ⟨sz', rs', e1, e2⟩ := k2 i hi
        exact ⟨sz', rs', e1, V.cls_mono (fun i hi => by simp [hi]) _ e2⟩
theorem OwnR.cl {σ : Store} : ∀ {rows : List (List T)} {rs : List (List V)} {is : List Nat}, OwnR σ rows rs is → V.cls is rs.flatten = true ∧ ClS is σ
  | [], _, _, h => by simp only [OwnR] at h; obtain ⟨rfl, rfl⟩ := h; exact ⟨rfl, fun i hi => by simp at hi⟩
  | r :: rows, rs, is, h => by
    simp only [OwnR] at h
    obtain ⟨u, us, i, j, rfl, rfl, h1, h2⟩ := h
    obtain ⟨a1, a2⟩ := OwnL.cl h1
    obtain ⟨b1, b2⟩ := OwnR.cl h2
    refine ⟨by rw [List.flatten_cons]; exact cls_app (V.cls_mono (fun i hi => by simp [hi]) _ a1) (V.cls_mono (fun i hi => by simp [hi]) _ b1), fun x hx => ?_⟩
    rcases List.mem_append.1 hx with hx | hx
    · obtain ⟨sz', rs', e1, e2⟩ := a2 x hx
      exact ⟨sz', rs', e1, V.cls_mono (fun i hi => by simp [hi]) _ e2⟩
    · obtain ⟨sz', rs', e1, e2⟩ := b2 x hx
      exact ⟨sz', rs', e1, V.cls_mono (fun i hi => by simp [hi]) _ e2⟩
theorem OwnL.cl {σ : Store} : ∀ {ts : List T} {us : List V} {is : List Nat}, OwnL σ ts us is → V.cls is us = true ∧ ClS is σ
  | [], _, _, h => by simp only [OwnL] at h; obtain ⟨rfl, rfl⟩ := h; exact ⟨rfl, fun i hi => by simp at hi⟩
  | t :: ts, us, is, h => by
    simp only [OwnL] at h
    obtain ⟨u, us', i, j, rfl, rfl, h1, h2⟩ := h
    obtain ⟨a1, a2⟩ := Own.cl h1
    obtain ⟨b1, b2⟩ := OwnL.cl h2
    refine ⟨by simp only [V.cls, Bool.and_eq_true]; exact ⟨V.cl_mono (fun i hi => by simp [hi]) _ a1, V.cls_mono (fun i hi => by simp [hi]) _ b1⟩, fun x hx => ?_⟩
    rcases List.mem_append.1 hx with hx | hx
    · obtain ⟨sz', rs', e1, e2⟩ := a2 x hx
      exact ⟨sz', rs', e1, V.cls_mono (fun i hi => by simp [hi]) _ e2⟩
    · obtain ⟨sz', rs', e1, e2⟩ := b2 x hx
      exact ⟨sz', rs', e1, V.cls_mono (fun i hi => by simp [hi]) _ e2⟩
end

/-- What the result holds; what else was made is forgotten. -/
def pick (is : List Nat) (n : Nat) : Store → Store
  | [] => []
  | o :: τ => (if is.contains n then o else .slc 0 []) :: pick is (n + 1) τ
theorem pick_len (is : List Nat) : ∀ (τ : Store) (n : Nat), (pick is n τ).length = τ.length
  | [], _ => rfl
  | _ :: τ, n => by simp [pick, pick_len is τ]
theorem pick_get (is : List Nat) : ∀ (τ : Store) (n j : Nat), (pick is n τ)[j]? = (τ[j]?).map fun o => if is.contains (n + j) then o else .slc 0 []
  | [], _, _ => by simp [pick]
  | o :: τ, n, 0 => by simp [pick]
  | o :: τ, n, j + 1 => by
    simp only [pick, List.getElem?_cons_succ, pick_get is τ (n + 1) j]
    rw [show n + 1 + j = n + (j + 1) by omega]

section
variable {x : Cx}
theorem acalls_own {P : Program} {f : FuncId} {vs us : List V} {σ : Store} {Q : V → Store → List Nat → Prop}
    (hQ : ∀ r s s' is, Q r s is → (∀ i ∈ is, s'[i]? = s[i]?) → Q r s' is) (hcl : ∀ r s is, Q r s is → r.cl is = true ∧ ClS is s)
    (h : ACalls P f vs (dead σ.length) fun r σ' => ∃ τ is, σ' = dead σ.length ++ τ ∧ Q r σ' is ∧ Wi is σ.length σ'.length) (hs : SeesAs σ vs us) :
    ACalls P f us σ fun r σ' => ∃ τ is, σ' = σ ++ τ ∧ Q r σ' is ∧ Wi is σ.length σ'.length := by
  refine ⟨h.1, fun x cargs hσ hx ha => ?_⟩
  subst hσ
  have := h.2 (Cx.dead x.σ.length x.w) cargs rfl (wrel_dead _ x.w) (seesAs_rel_dead _ hx hs ha)
  refine Calls.mono this ?_
  rintro e w' ⟨v, y, r, rfl, rfl, ⟨τ, is, hτ, hq, hw⟩, hv, hy, hxy⟩
  obtain ⟨hc1, hc2⟩ := hcl r y.σ is hq
  have hdl : (dead x.σ.length).length = x.σ.length := by simp [dead]
  have hyF : ∀ b, b < x.w.heap.size → y.F b := fun b hb => hxy.F b hb
  have hblk : ∀ b, b < x.w.heap.size → y.w.heap[b]? = x.w.heap[b]? := fun b hb => hxy.block b hb
  have hylen : y.σ.length = x.σ.length + τ.length := by rw [hτ]; simp [hdl]
  have hlo : ∀ i ∈ is, x.σ.length ≤ i := fun i hi => (hw.2 i hi).1
  have hσ2 : ∀ i, x.σ.length ≤ i → (x.σ ++ pick is x.σ.length τ)[i]? = (y.σ[i]?).map fun o => if is.contains i then o else .slc 0 [] := by
    intro i hi
    rw [List.getElem?_append_right hi, pick_get, hτ, List.getElem?_append_right (by rw [hdl]; exact hi), hdl, show x.σ.length + (i - x.σ.length) = i by omega]
  have hin : ∀ i ∈ is, (x.σ ++ pick is x.σ.length τ)[i]? = y.σ[i]? := by
    intro i hi
    rw [hσ2 i (hlo i hi)]
    have : is.contains i = true := by simpa using hi
    simp only [this, if_true]
    cases y.σ[i]? <;> rfl
  have hon : On is y { ρ := fun i => if i < x.σ.length then x.ρ i else if is.contains i then y.ρ i else ⟨none, 0⟩, F := x.F, σ := x.σ ++ pick is x.σ.length τ, w := y.w } :=
    ⟨hin, fun i hi => by
      have h1 := hlo i hi
      have : is.contains i = true := by simpa using hi
      simp only [show ¬ i < x.σ.length by omega, if_false, this, if_true], rfl⟩
  have hext : Ext x { ρ := fun i => if i < x.σ.length then x.ρ i else if is.contains i then y.ρ i else ⟨none, 0⟩, F := x.F, σ := x.σ ++ pick is x.σ.length τ, w := y.w } :=
    ⟨hxy.os, hxy.tape, hxy.output, hxy.size, fun _ h => h, fun b hb => hblk b (hx.low b hb), fun id o ho => by
      have hid := (List.getElem?_eq_some_iff.1 ho).1
      exact ⟨o, by show (x.σ ++ pick is x.σ.length τ)[id]? = _; rw [List.getElem?_append_left hid]; exact ho, o.like_refl, Nat.le_refl _, fun _ => by simp [hid]⟩⟩
  have hnewblk : ∀ i b o, y.σ[i]? = some o → (y.ρ i).blk = some b → x.w.heap.size ≤ b := by
    intro i b o ho hb
    have := (ORel.blk_lt (hy.objs i o ho) hb).2
    rcases Nat.lt_or_ge b x.w.heap.size with h' | h'
    · exact (this (hyF b h')).elim
    · exact h'
  have hobj : ∀ i ∈ is, ∃ o, y.σ[i]? = some o := fun i hi => let ⟨sz, rs, e, _⟩ := hc2 i hi; ⟨_, e⟩
  refine ⟨v, { ρ := fun i => if i < x.σ.length then x.ρ i else if is.contains i then y.ρ i else ⟨none, 0⟩, F := x.F, σ := x.σ ++ pick is x.σ.length τ, w := y.w }, r, rfl, rfl,
    ⟨pick is x.σ.length τ, is, rfl, hQ r y.σ _ is hq hin, hw.1, fun i hi => ⟨hlo i hi, ?_⟩⟩, VRel.on hon r v hc1 hv, ⟨fun id o ho => ?_, fun i j b hij hi hj hb => ?_, fun b hb => Nat.lt_of_lt_of_le (hx.low b hb) hxy.size⟩, hext⟩
  · have := (hw.2 i hi).2
    simp only [List.length_append, pick_len]
    omega
  · by_cases hid : id < x.σ.length
    · have ho' : x.σ[id]? = some o := by
        have : (x.σ ++ pick is x.σ.length τ)[id]? = some o := ho
        rwa [List.getElem?_append_left hid] at this
      exact ORel.keep hext (by simp [hid]) (fun b _ hlt hf => ⟨hblk b hlt, hf⟩) (hx.objs id o ho')
    · by_cases hm : id ∈ is
      · have ho' : y.σ[id]? = some o := by rw [← hin id hm]; exact ho
        obtain ⟨sz, rs, e1, e2⟩ := hc2 id hm
        rw [ho'] at e1
        obtain rfl := Option.some.inj e1
        have hob := hy.objs id _ ho'
        have hρ := hon.ρ id hm
        have nF : ∀ b, (y.ρ id).blk = some b → ¬ x.F b := fun b hb hF => by
          have h1 := hnewblk id b _ ho' hb
          have h2 := hx.low b hF
          omega
        rcases hob with ⟨h1, h2⟩ | ⟨b, arr, ty, fr, l, h1, h2, h3, h4, h5, h6, h7, h8, h9⟩
        · exact .inl ⟨h1, hρ.trans h2⟩
        · exact .inr ⟨b, arr, ty, fr, l, hρ ▸ h1, nF b h1, h3, h4, hρ ▸ h5, hρ ▸ h6, h7, VsRel.on hon _ _ e2 h8, h9⟩
      · have hm' : is.contains id = false := by simpa using hm
        have : (x.σ ++ pick is x.σ.length τ)[id]? = some o := ho
        rw [hσ2 id (by omega)] at this
        simp only [hm'] at this
        obtain ⟨o', _, rfl⟩ := Option.map_eq_some_iff.1 this
        exact .inl ⟨rfl, by simp [hid, hm]⟩
  · simp only at hb ⊢
    by_cases h1 : i < x.σ.length
    · simp only [h1, if_true] at hb
      by_cases h2 : j < x.σ.length
      · simp only [h2, if_true]; exact hx.inj i j b hij h1 h2 hb
      · simp only [h2, if_false]
        split
        · rename_i hj'
          intro hb'
          obtain ⟨o, ho⟩ := hobj j (by simpa using hj')
          have := hnewblk j b o ho hb'
          have := (ORel.blk_lt (hx.objs i x.σ[i] (by simp [h1])) hb).1
          omega
        · intro hb'; cases hb'
    · simp only [h1, if_false] at hb
      split at hb
      · rename_i hi'
        obtain ⟨oi, hoi⟩ := hobj i (by simpa using hi')
        by_cases h2 : j < x.σ.length
        · simp only [h2, if_true]
          intro hb'
          have := hnewblk i b oi hoi hb
          have := (ORel.blk_lt (hx.objs j x.σ[j] (by simp [h2])) hb').1
          omega
        · simp only [h2, if_false]
          split
          · rename_i hj'
            obtain ⟨oj, hoj⟩ := hobj j (by simpa using hj')
            exact hy.inj i j b hij (List.getElem?_eq_some_iff.1 hoi).1 (List.getElem?_eq_some_iff.1 hoj).1 hb
          · intro hb'; cases hb'
      · cases hb
end
/-- A call that makes one value anew. -/
theorem acalls_to {P : Program} {f : FuncId} {vs us : List V} {σ : Store} {t : T} (h : ∀ σ, ACalls P f vs σ (ToR t σ)) (hs : SeesAs σ vs us) : ACalls P f us σ (ToR t σ) :=
  acalls_own (Q := fun r s is => Own s t r is) (fun _ _ _ _ h k => h.frame k) (fun _ _ _ h => h.cl) ((h _).mono fun r σ' ⟨τ, is, h1, h2, h3⟩ => ⟨τ, is, h1, h2, by simpa [dead] using h3⟩) hs
theorem acalls_toL {P : Program} {f : FuncId} {vs us : List V} {σ : Store} {ts : List T} (h : ∀ σ, ACalls P f vs σ (ToLR ts σ)) (hs : SeesAs σ vs us) : ACalls P f us σ (ToLR ts σ) :=
  (acalls_own (Q := fun r s is => ∃ us, r = .agg us ∧ OwnL s ts us is) (fun _ _ _ _ ⟨u, e, h⟩ k => ⟨u, e, h.frame k⟩) (fun _ _ _ ⟨u, e, h⟩ => by subst e; exact ⟨by simp only [V.cl]; exact h.cl.1, h.cl.2⟩)
    ((h _).mono fun r σ' ⟨us, τ, is, h0, h1, h2, h3⟩ => ⟨τ, is, h1, ⟨us, h0, h2⟩, by simpa [dead] using h3⟩) hs).mono fun r σ' ⟨τ, is, h1, ⟨us, h0, h2⟩, h3⟩ => ⟨us, τ, is, h0, h1, h2, h3⟩
end Go.Ab
