/- All instructions together; regions, code and calls: the rules of our logic. Conditions: none (a library of lemmas). -/
import Derived.Test.YtleilaipdhmgeaaAbEc
set_option linter.unusedSimpArgs false
set_option linter.unusedVariables false
set_option linter.defProp false
namespace Go.Ab
section
variable {P : Program} {x : Cx} {e : Env} {a : Act}

theorem map_some {α β : Type} {f : α → β} {o : Option α} {b : β} (h : o.map f = some b) : ∃ a, o = some a ∧ f a = b := by
  cases o with
  | none => cases h
  | some a => exact ⟨a, rfl, by simpa using h⟩

theorem step_strStr (hx : WRel x) (he : ERel x e a.tmps) {p : Operand} {o : O} (hp : cO p = some o) {s t : TypeId} (hs : P.underlying s = some .string) (ht : P.underlying t = some .string)
    {K : Tok → Option V → Store → Prop} (hk : ev e x.σ K (.convStr o)) : Step P x (do pure (Next.value (← convert s t (a.eval p)))) K := by
  obtain ⟨u, hu, hk1⟩ := onV_some hk
  have hr := opv_rel he hp hu
  unfold evConvStr at hk1
  split at hk1
  · rename_i str
    rw [rel_str hr]
    exact Step.pure hx (v := .string ⟨str.toArray⟩) (by simp [convert, run_underlying hs, run_underlying ht]) (mk_str _) hk1
  · exact hk1.elim

theorem cI_sound (hx : WRel x) (he : ERel x e a.tmps) {o : Oper} {i : I} (hc : cI P o.op = some i) (hi : ∀ f as, i ≠ .call f as) {K : Tok → Option V → Store → Prop} (hk : ev e x.σ K i) : Step P x (execOp a.eval o) K := by
  cases hop : o.op with
  | move p =>
    rw [hop] at hc; obtain ⟨o', h1, rfl⟩ := map_some hc
    exact step_mv hx he h1 hk (by simp [execOp, hop])
  | assign p =>
    rw [hop] at hc; obtain ⟨o', h1, rfl⟩ := map_some hc
    exact step_mv hx he h1 hk (by simp [execOp, hop])
  | pick c p q =>
    rw [hop] at hc; simp only [cI] at hc
    split at hc
    · rename_i oc o1 o2 h0 h1 h2
      obtain rfl := Option.some.inj hc
      have := step_pick hx he h0 h1 h2 hk (P := P)
      simpa [execOp, hop] using this
    · cases hc
  | alloc t =>
    rw [hop] at hc; simp only [cI] at hc
    split at hc
    · rename_i i' hi'
      split at hc
      · rename_i z hz
        obtain ⟨cs, h1, rfl⟩ := map_some hc
        have := step_new hx hi' hz h1 hk
        simpa [execOp, hop] using this
      · cases hc
    · cases hc
  | box t p =>
    rw [hop] at hc; obtain ⟨o', h1, rfl⟩ := map_some hc
    have := step_boxOp hx he h1 hk (P := P) (t := t)
    simpa [execOp, hop] using this
  | load t p =>
    rw [hop] at hc; simp only [cI] at hc
    split at hc
    · rename_i n o' h0 h1
      obtain rfl := Option.some.inj hc
      have := step_load hx he h1 h0 hk
      simpa [execOp, hop] using this
    · cases hc
  | store t p q =>
    rw [hop] at hc; simp only [cI] at hc
    split at hc
    · rename_i i' o1 o2 h0 h1 h2
      obtain rfl := Option.some.inj hc
      have := step_store hx he h1 h2 h0 hk
      simpa [execOp, hop] using this
    · cases hc
  | nilCheck p =>
    rw [hop] at hc; obtain ⟨o', h1, rfl⟩ := map_some hc
    exact step_nilCheck hx he h1 hk o hop
  | binOp op t p q ty =>
    rw [hop] at hc; simp only [cI] at hc
    have fin : ∀ {o1 o2 : O} {i' : I}, i' = i → (∀ u v, opv e o1 = some u → opv e o2 = some v → VRel x u (a.eval p) → VRel x v (a.eval q) → ev e x.σ K i' → ∃ r z, (do eqGuard op t p q (a.eval p) (a.eval q); binOp op t (a.eval p) (a.eval q) : Sem Value).run P x.w = .ok r x.w ∧ VRel x z r ∧ K .go (some z) x.σ) →
        cO p = some o1 → cO q = some o2 → (∃ u, opv e o1 = some u) → (∃ v, opv e o2 = some v) → Step P x (execOp a.eval o) K := by
      rintro o1 o2 i' rfl h h1 h2 ⟨u, hu⟩ ⟨v, hv⟩
      obtain ⟨r, z, hrun, hrel, hkk⟩ := h u v hu hv (opv_rel he h1 hu) (opv_rel he h2 hv) hk
      refine Step.pure hx (v := r) ?_ hrel hkk
      have hrun' := hrun
      simp only [execOp, hop]
      rw [Sem.run_bind, hrun']
      rfl
    split at hc
    · rename_i o1 o2 h1 h2
      have open2 : ∀ {Q : Tok → V → V → Prop}, (onV (opv e o1) fun t u => onV (opv e o2) fun _ v => Q t u v) → ∃ u v, opv e o1 = some u ∧ opv e o2 = some v ∧ Q .go u v := by
        intro Q hq
        obtain ⟨u, hu, hq⟩ := onV_some hq
        obtain ⟨v, hv, hq⟩ := onV_some hq
        exact ⟨u, v, hu, hv, hq⟩
      split at hc
      case h_1 | h_2 =>
        obtain rfl := Option.some.inj hc
        obtain ⟨u, v, hu, hv, hk'⟩ := open2 hk
        exact fin rfl (fun u' v' hu' hv' hp hq _ => by
          rw [hu] at hu'; rw [hv] at hv'; obtain rfl := Option.some.inj hu'; obtain rfl := Option.some.inj hv'
          exact evBin_sound hp hq hk' t p q) h1 h2 ⟨u, hu⟩ ⟨v, hv⟩
      case h_3 | h_4 =>
        rename_i ht
        obtain rfl := Option.some.inj hc
        obtain ⟨u, v, hu, hv, hk'⟩ := open2 hk
        exact fin rfl (fun u' v' hu' hv' hp hq _ => by
          rw [hu] at hu'; rw [hv] at hv'; obtain rfl := Option.some.inj hu'; obtain rfl := Option.some.inj hv'
          unfold evEqB at hk'
          split at hk'
          · first | exact evB_sound (K := fun _ u => K .go (some u) x.σ) (neg := false) hp hq hk' ht p q | exact evB_sound (K := fun _ u => K .go (some u) x.σ) (neg := true) hp hq hk' ht p q
          · exact hk'.elim) h1 h2 ⟨u, hu⟩ ⟨v, hv⟩
      case h_5 | h_6 =>
        rename_i ht
        obtain rfl := Option.some.inj hc
        obtain ⟨u, v, hu, hv, hk'⟩ := open2 hk
        exact fin rfl (fun u' v' hu' hv' hp hq _ => by
          rw [hu] at hu'; rw [hv] at hv'; obtain rfl := Option.some.inj hu'; obtain rfl := Option.some.inj hv'
          first | exact evNilP_sound (neg := false) hp hq hk' ht p q | exact evNilP_sound (neg := true) hp hq hk' ht p q) h1 h2 ⟨u, hu⟩ ⟨v, hv⟩
      case h_7 | h_8 =>
        rename_i ht
        obtain rfl := Option.some.inj hc
        obtain ⟨u, v, hu, hv, hk'⟩ := open2 hk
        exact fin rfl (fun u' v' hu' hv' hp hq _ => by
          rw [hu] at hu'; rw [hv] at hv'; obtain rfl := Option.some.inj hu'; obtain rfl := Option.some.inj hv'
          first | exact evNilS_sound (neg := false) hp hq hk' ht p q | exact evNilS_sound (neg := true) hp hq hk' ht p q) h1 h2 ⟨u, hu⟩ ⟨v, hv⟩
      case h_9 =>
        split at hc
        · rename_i hg
          obtain ⟨ks, hks, rfl⟩ := map_some hc
          have := step_eqA hx he h1 h2 hks hg (neg := false) (ty := ty) hk
          simpa [execOp, hop] using this
        · cases hc
      case h_10 =>
        split at hc
        · rename_i hg
          obtain ⟨ks, hks, rfl⟩ := map_some hc
          have := step_eqA hx he h1 h2 hks hg (neg := true) (ty := ty) hk
          simpa [execOp, hop] using this
        · cases hc
      case h_11 => cases hc
    · cases hc
  | unOp op t p =>
    rw [hop] at hc; obtain ⟨o', h1, rfl⟩ := map_some hc
    obtain ⟨u, hu, hk'⟩ := onV_some hk
    obtain ⟨r, z, hrun, hrel, hkk⟩ := evUn_sound (P := P) (opv_rel he h1 hu) hk'
    exact Step.pure hx (v := r) (by simp [execOp, hop, hrun]) hrel hkk
  | convert s t p =>
    rw [hop] at hc; simp only [cI] at hc
    split at hc
    · rename_i k' k o' h0 h1 h2
      obtain rfl := Option.some.inj hc
      have := step_convInt hx he h2 h0 h1 hk
      simpa [execOp, hop] using this
    · rename_i o' h0 h1 h2
      obtain rfl := Option.some.inj hc
      have := step_strStr hx he h2 h0 h1 hk
      simpa [execOp, hop] using this
    · rename_i et o' h0 h1 h2
      split at hc
      · rename_i h3
        obtain rfl := Option.some.inj hc
        have := step_strBytes hx he h2 h0 h1 h3 hk
        simpa [execOp, hop] using this
      · cases hc
    · rename_i et o' h0 h1 h2
      split at hc
      · rename_i h3
        obtain rfl := Option.some.inj hc
        have := step_bytesStr hx he h2 h0 h3 h1 hk
        simpa [execOp, hop] using this
      · cases hc
    · cases hc
  | makeSlice t p q =>
    rw [hop] at hc; simp only [cI] at hc
    split at hc
    · rename_i et o1 o2 h0 h1 h2
      split at hc
      · rename_i i' hi'
        obtain ⟨z, hz, rfl⟩ := map_some hc
        have := step_mkSl hx he h1 h2 h0 hi' hz hk
        simpa [execOp, hop] using this
      · cases hc
    · cases hc
  | buildSlice t n ps =>
    rw [hop] at hc; simp only [cI] at hc
    split at hc
    · rename_i et os h0 h1
      split at hc
      · rename_i i' hi'
        split at hc
        · rename_i z hz
          split at hc
          · rename_i hsm
            obtain rfl := Option.some.inj hc
            have := step_lit hx he h0 hi' hz h1 hsm hk
            simpa [execOp, hop] using this
          · cases hc
        · cases hc
      · cases hc
    · cases hc
  | build t ps =>
    rw [hop] at hc; simp only [cI] at hc
    split at hc
    · rename_i fs i' os h0 h1 h2
      split at hc
      · rename_i z pl hz hpl
        split at hc
        · rename_i zs qs hzs hqs
          obtain rfl := Option.some.inj hc
          have := step_build hx he h0 h1 h2 hz hpl hzs hqs hk
          simpa [execOp, hop] using this
        · cases hc
      · cases hc
    · cases hc
  | slice t p lo hi mx =>
    rw [hop] at hc
    cases mx with
    | some m => simp [cI] at hc
    | none =>
      simp only [cI] at hc
      split at hc
      · rename_i o' lo' hi' h0 h1 h2 h3
        obtain rfl := Option.some.inj hc
        have := step_sliceStr hx he h1 h2 h3 h0 hk
        simpa [execOp, hop] using this
      · rename_i et o' lo' hi' h0 h1 h2 h3
        split at hc
        · rename_i i' hi'
          obtain rfl := Option.some.inj hc
          have := step_sliceSl hx he h1 h2 h3 h0 hi' hk
          simpa [execOp, hop] using this
        · cases hc
      · cases hc
  | fieldAddr s p f =>
    rw [hop] at hc; simp only [cI] at hc
    split at hc
    · rename_i off ft n o' h0 h1
      split at hc
      · cases hc
      · rename_i hn
        obtain rfl := Option.some.inj hc
        have := step_fieldAddr hx he h1 h0 hn hk
        simpa [execOp, hop] using this
    · cases hc
  | field s p f =>
    rw [hop] at hc; simp only [cI] at hc
    split at hc
    · rename_i off ft n o' h0 h1
      obtain ⟨sp, h2, rfl⟩ := map_some hc
      have := step_field hx he h1 h0 h2 hk
      simpa [execOp, hop] using this
    · cases hc
  | indexAddr t p q =>
    rw [hop] at hc; simp only [cI] at hc
    split at hc
    · rename_i et o1 o2 h0 h1 h2
      split at hc
      · rename_i i' hi'
        obtain rfl := Option.some.inj hc
        have := step_indexAddr hx he h1 h2 h0 hi' hk
        simpa [execOp, hop] using this
      · cases hc
    · cases hc
  | index t p q =>
    rw [hop] at hc; simp only [cI] at hc
    split at hc
    · rename_i o1 o2 h0 h1 h2
      obtain rfl := Option.some.inj hc
      have := step_index hx he h1 h2 h0 hk
      simpa [execOp, hop] using this
    · cases hc
  | extract p k =>
    rw [hop] at hc; obtain ⟨o', h1, rfl⟩ := map_some hc
    have := step_extract hx he h1 k hk (P := P)
    simpa [execOp, hop] using this
  | call c =>
    rw [hop] at hc; simp only [cI] at hc
    split at hc
    · rename_i hcal
      split at hc
      · rename_i p t ha ht
        split at hc
        · rename_i o' h0 h1
          obtain rfl := Option.some.inj hc
          have := step_lenStr hx he h1 h0 hk (ty := o.type)
          have ha' : c.args = #[p] := by rw [← Array.toArray_toList (xs := c.args), ha]
          have ht' : c.argTypes = #[t] := by rw [← Array.toArray_toList (xs := c.argTypes), ht]
          simpa [execOp, hop, resolve, hcal, invoke, builtin, ha', ht'] using this
        · rename_i et o' h0 h1
          obtain rfl := Option.some.inj hc
          have := step_lenSl hx he h1 h0 hk (ty := o.type)
          have ha' : c.args = #[p] := by rw [← Array.toArray_toList (xs := c.args), ha]
          have ht' : c.argTypes = #[t] := by rw [← Array.toArray_toList (xs := c.argTypes), ht]
          simpa [execOp, hop, resolve, hcal, invoke, builtin, ha', ht'] using this
        · rename_i kt et o' h0 h1
          obtain rfl := Option.some.inj hc
          have := step_lenM hx he h1 h0 hk (ty := o.type)
          have ha' : c.args = #[p] := by rw [← Array.toArray_toList (xs := c.args), ha]
          have ht' : c.argTypes = #[t] := by rw [← Array.toArray_toList (xs := c.argTypes), ht]
          simpa [execOp, hop, resolve, hcal, invoke, builtin, ha', ht'] using this
        · cases hc
      · cases hc
    · rename_i hcal
      split at hc
      · rename_i p q t t' ha ht
        split at hc
        · rename_i et o1 o2 h0 h1 h2
          split at hc
          · rename_i i' hi'
            split at hc
            · rename_i z hz
              split at hc
              · rename_i heq
                subst heq
                obtain rfl := Option.some.inj hc
                have := step_append hx he h1 h2 h0 hi' hz hk (ty := o.type)
                have ha' : c.args = #[p, q] := by rw [← Array.toArray_toList (xs := c.args), ha]
                have ht' : c.argTypes = #[t, t] := by rw [← Array.toArray_toList (xs := c.argTypes), ht]
                simpa [execOp, hop, resolve, hcal, invoke, builtin, ha', ht'] using this
              · cases hc
            · cases hc
          · cases hc
        · cases hc
      · cases hc
    · rename_i hcal
      split at hc
      · rename_i p q t t' ha ht
        split at hc
        · rename_i et et' o1 o2 h0 h0' h1 h2
          split at hc
          · rename_i i' hi'
            split at hc
            · rename_i hpos
              obtain rfl := Option.some.inj hc
              have := step_copy hx he h1 h2 (t' := t') (et' := et') h0 hi' hpos hk (ty := o.type)
              have ha' : c.args = #[p, q] := by rw [← Array.toArray_toList (xs := c.args), ha]
              have ht' : c.argTypes = #[t, t'] := by rw [← Array.toArray_toList (xs := c.argTypes), ht]
              simpa [execOp, hop, resolve, hcal, invoke, builtin, ha', ht'] using this
            · cases hc
          · cases hc
        · cases hc
      · cases hc
    · rename_i hcal
      split at hc
      · rename_i p q ha
        split at hc
        · rename_i o1 o2 h1 h2
          obtain rfl := Option.some.inj hc
          have := step_mm hx he h1 h2 hk (ts := c.argTypes) (ty := o.type) (P := P)
          have ha' : c.args = #[p, q] := by rw [← Array.toArray_toList (xs := c.args), ha]
          simpa [execOp, hop, resolve, hcal, invoke, builtin, ha'] using this
        · cases hc
      · cases hc
    · rename_i hcal
      split at hc
      · rename_i p q ha
        split at hc
        · rename_i o1 o2 h1 h2
          obtain rfl := Option.some.inj hc
          have := step_mm hx he h1 h2 hk (ts := c.argTypes) (ty := o.type) (P := P)
          have ha' : c.args = #[p, q] := by rw [← Array.toArray_toList (xs := c.args), ha]
          simpa [execOp, hop, resolve, hcal, invoke, builtin, ha'] using this
        · cases hc
      · cases hc
    · obtain ⟨as, _, rfl⟩ := map_some hc
      exact (hi _ _ rfl).elim
    · split at hc
      · obtain rfl := Option.some.inj hc
        exact (hi _ _ rfl).elim
      · cases hc
    · cases hc
  | makeMap t r =>
    rw [hop] at hc
    cases r with
    | none =>
      simp only [cI, Option.some.injEq] at hc
      subst hc
      have := step_mkMap hx hk (P := P) (t := t)
      simpa [execOp, hop] using this
    | some r => simp [cI] at hc
  | lookup t p q ok =>
    rw [hop] at hc; simp only [cI] at hc
    split at hc
    · rename_i kt et o1 o2 h0 h1 h2
      split at hc
      · rename_i kd z hkd hz
        obtain rfl := Option.some.inj hc
        have := step_look hx he h1 h2 h0 hkd hz hk
        simpa [execOp, hop] using this
      · cases hc
    · cases hc
  | mapUpdate t p q r =>
    rw [hop] at hc; simp only [cI] at hc
    split at hc
    · rename_i kt et o1 o2 o3 h0 h1 h2 h3
      obtain ⟨kd, hkd, rfl⟩ := map_some hc
      have := step_mapUp hx he h1 h2 h3 h0 hkd hk
      simpa [execOp, hop] using this
    · cases hc
  | insert t p q r =>
    rw [hop] at hc; simp only [cI] at hc
    split at hc
    · rename_i kt et o1 o2 o3 h0 h1 h2 h3
      obtain ⟨kd, hkd, rfl⟩ := map_some hc
      have := step_mapUp hx he h1 h2 h3 h0 hkd hk
      simpa [execOp, hop] using this
    · cases hc
  | mapEntry t p q =>
    rw [hop] at hc; simp only [cI] at hc
    split at hc
    · rename_i kt et o1 o2 h0 h1 h2
      split at hc
      · rename_i kd z hkd hz
        obtain rfl := Option.some.inj hc
        have := step_mapEnt hx he h1 h2 h0 hkd hz hk
        simpa [execOp, hop] using this
      · cases hc
    · cases hc
  | entryStore t p q r =>
    rw [hop] at hc; simp only [cI] at hc
    split at hc
    · rename_i o1 o2 o3 h1 h2 h3
      obtain rfl := Option.some.inj hc
      have := step_entSt hx he h1 h2 h3 hk (P := P) (t := t)
      simpa [execOp, hop] using this
    · cases hc
  | makeInterface t p =>
    rw [hop] at hc; simp only [cI] at hc
    split at hc
    · cases hc
    · rename_i d o' hne h0 h1
      obtain rfl := Option.some.inj hc
      have := step_iface hx he h1 h0 (fun m hm => by subst hm; first | exact hne _ rfl | exact hne _ _ rfl | exact hne _ h0 | simp_all) hk
      simpa [execOp, hop] using this
    · cases hc
  | makeFunc f first caps =>
    rw [hop] at hc
    cases f with
    | func f =>
      simp only [cI] at hc
      split at hc
      · rename_i hfi
        obtain ⟨os, hos, rfl⟩ := map_some hc
        have := step_fn hx he hos hk (P := P) (f := f)
        have hf0 : first = #[] := by simpa using hfi
        simpa [execOp, hop, hf0] using this
      · cases hc
    | _ => simp [cI] at hc
  | _ => rw [hop] at hc; simp [cI] at hc
end
end Go.Ab
