/- Regions whose order is drawn: the theorem. Conditions: none (a library of lemmas). -/
import Derived.Test.YtleilaipdhmgeaaAbGb
set_option linter.unusedSimpArgs false
set_option linter.unusedVariables false
set_option linter.defProp false
namespace Go.Ab
section
variable {P : Program} {ops : Array Oper} {n : Nat} {K : St → Prop} {x0 : Cx} {all A L : List Ent} {pend : List Pd} {listed : Array Bool} {x : Cx} {e : Env} {a : Act}

theorem preds_listed {j : Nat} (hr : j ∈ Region.ready .any ops listed) : ∀ p ∈ preds ops j, listed.getD p false = true := by
  obtain ⟨_, o, ho, h⟩ := mem_ready.1 hr
  intro p hp
  simp only [preds, ho, List.mem_map, List.mem_filter] at hp
  obtain ⟨e, ⟨h1, h2⟩, rfl⟩ := hp
  exact h e (by simpa using h1) h2

theorem un_of (h : Inv P ops n K x0 all A L pend listed x e a) {j : Nat} (hj : (∃ m ∈ L, m.j = j) ∨ ∃ p ∈ pend, p.x.j = j) : listed.getD j false = false := by
  have h1 := (h.un j).2 hj
  rw [Array.getD_eq_getD_getElem?] at h1 ⊢
  cases hc : listed[j]? with
  | none => rfl
  | some b => rw [hc] at h1; simpa using h1

theorem anc_listed (h : Inv P ops n K x0 all A L pend listed x e a) : ∀ (f : Nat) (s : List Nat), (∀ k ∈ s, listed.getD k false = true) → ∀ k ∈ ancS ops f s, listed.getD k false = true
  | 0, s, hs => hs
  | f + 1, s, hs => by
    simp only [ancS]
    split
    · exact hs
    rename_i k0 ks0 heq
    refine anc_listed h f _ fun k hk => ?_
    rcases List.mem_append.1 hk with hk | hk
    · exact hs k hk
    · rw [← heq] at hk
      have := List.mem_eraseDups.1 hk
      obtain ⟨h1, _⟩ := List.mem_filter.1 this
      obtain ⟨q, hq, hk⟩ := List.mem_flatMap.1 h1
      exact h.closed q (hs q hq) k hk

theorem closed_set (h : Inv P ops n K x0 all A L pend listed x e a) {j : Nat} (hr : j ∈ Region.ready .any ops listed) : ∀ i, (listed.setIfInBounds j true).getD i false = true → ∀ p ∈ preds ops i, (listed.setIfInBounds j true).getD p false = true := by
  intro i hi p hp
  by_cases hij : j = i
  · subst hij
    exact getD_set_true (preds_listed hr p hp)
  · rw [getD_set_ne false hij] at hi
    exact getD_set_true (h.closed i hi p hp)

theorem getD_set_self {l : Array Bool} {i : Nat} : (l.setIfInBounds i true).getD i true = true := by
  by_cases h : i < l.size
  · simp [h]
  · rw [Array.getD_eq_getD_getElem?, Array.getElem?_eq_none (by simpa using h)]
    rfl

/-- The operands of what may come up now are there. -/
theorem keep_rel (hok : AllOk P ops n all) (h : Inv P ops n K x0 all A L pend listed x e a) {y : Ent} (hy : y ∈ all) (hr : y.j ∈ Region.ready .any ops listed) {e1 : Env} (he : ∀ k ∈ y.c.looks, eget e1 k = eget e k) : ERel x (keepE y.c.looks e1) a.tmps := by
  intro k u hu
  obtain ⟨hk, hu⟩ := eget_keep_some hu
  rw [he k hk] at hu
  rcases h.env k u hu with ⟨p, hp, hd⟩ | h1
  · exfalso
    obtain ⟨Ay, By, hs⟩ := List.append_of_mem hy
    have hent := hok.ents Ay y By hs
    have hpall : p.x ∈ all := by rw [h.split]; exact List.mem_append_left _ (h.pnd p hp).1
    rcases hent.look p.x hpall k hd hk with ⟨h1, _⟩ | ⟨h1, _⟩
    · have := preds_listed hr _ h1
      rw [un_of h (.inr ⟨p, hp, rfl⟩)] at this
      cases this
    · obtain ⟨_, ⟨r, h2⟩, _⟩ := h.pnd p hp
      rw [h1] at h2
      cases h2
  · exact h1

theorem gOk_keep {y : Ent} : gOk y.c.g (keepE y.c.looks e) = gOk y.c.g e := by
  cases hg : y.c.g with
  | none => rfl
  | some g =>
    obtain ⟨s, b⟩ := g
    have : s ∈ y.c.looks := by simp [In.looks, hg]
    simp only [gOk, eget_keep this]

theorem ev_keep {y : Ent} {σ : Store} {KK : Tok → Option V → Store → Prop} : ev (keepE y.c.looks e) σ KK y.c.i = ev e σ KK y.c.i :=
  ev_congr fun k hk => eget_keep (by simp [In.looks, hk])

/-- After a pending one has come up. -/
theorem exec_pend {P1 P2 : List Pd} {p : Pd} (hok : AllOk P ops n all) (h : Inv P ops n K x0 all A L (P1 ++ p :: P2) listed x e a) (hr : p.x.j ∈ Region.ready .any ops listed) {Q : Exit → Act → World → Prop} {G : Act → World → Prop}
    (hG : ∀ y a', Inv P ops n K x0 all A L (P1 ++ P2) (listed.setIfInBounds p.x.j true) y e a' → G a' y.w) : wpOp P ops Q p.x.j G a x.w := by
  have hpm : p ∈ P1 ++ p :: P2 := by simp
  obtain ⟨h1, ⟨r, h2E⟩, h3, h4, h5, h6, h7⟩ := h.pnd p hpm
  have h2 := lightE_some h2E
  have hall : p.x ∈ all := by rw [h.split]; exact List.mem_append_left _ h1
  obtain ⟨o, c, ho, hc, hcc⟩ := hok.ins p.x hall
  have hek := keep_rel hok h hall hr h4
  have hdst : o.dst = p.x.c.dst := by rw [hcc]; exact (cIn_some hc).2.1
  have hlt : ∀ k, p.x.c.dst = some k → k < n := by rw [hcc]; exact (cIn_some hc).2.2.1
  have hdup := h.pdup
  rw [List.map_append, List.map_cons, List.nodup_append] at hdup
  obtain ⟨d1, d2, d3⟩ := hdup
  rw [List.nodup_cons] at d2
  have hne : ∀ q ∈ P1 ++ P2, q.x.j ≠ p.x.j := by
    intro q hq
    rcases List.mem_append.1 hq with hq | hq
    · exact d3 _ (List.mem_map.2 ⟨q, hq, rfl⟩) _ List.mem_cons_self
    · intro heq
      exact d2.1 (List.mem_map.2 ⟨q, hq, heq⟩)
  have fin : ∀ y v, Ext x y → WRel y → y.σ = x.σ → VRel y p.u v → G (a.put o.dst v) y.w := by
    intro y v hxy hy hσ hv
    refine hG y _ ⟨h.split, by simpa using h.size, ?_, closed_set h hr, ?_, ?_, ?_, h.ext.trans hxy, hy, by rw [put_size]; exact h.tn, by rw [put_defers]; exact h.df, by rw [hσ]; exact h.vc⟩
    · intro j
      by_cases hj : p.x.j = j
      · subst hj
        simp only [getD_set_self, Bool.true_eq_false, false_iff, not_or, not_exists, not_and]
        refine ⟨fun m hm heq => ne_j hok h.split h1 hm heq.symm, fun q hq => hne q hq⟩
      · rw [getD_set_ne true hj, h.un j]
        constructor
        · rintro (h' | ⟨q, hq, rfl⟩)
          · exact .inl h'
          · simp only [List.mem_append, List.mem_cons] at hq
            rcases hq with hq | rfl | hq
            · exact .inr ⟨q, by simp [hq], rfl⟩
            · exact (hj rfl).elim
            · exact .inr ⟨q, by simp [hq], rfl⟩
        · rintro (h' | ⟨q, hq, rfl⟩)
          · exact .inl h'
          · refine .inr ⟨q, ?_, rfl⟩
            rcases List.mem_append.1 hq with hq | hq <;> simp [hq]
    · intro q hq
      have hq' : q ∈ P1 ++ p :: P2 := by rcases List.mem_append.1 hq with hq | hq <;> simp [hq]
      rw [hσ]
      exact h.pnd q hq'
    · rw [List.map_append, List.nodup_append]
      exact ⟨d1, d2.2, fun u hu v hv => d3 u hu v (List.mem_cons_of_mem _ hv)⟩
    · intro k u hk
      by_cases hd : p.x.c.dst = some k
      · refine .inr ⟨v, ?_, ?_⟩
        · rw [hdst, hd]
          have := hlt k hd
          simp [Act.put, h.tn, this]
        · rw [h5 k hd] at hk
          obtain rfl := Option.some.inj hk
          exact hv
      · rcases h.env k u hk with ⟨q, hq, hqd⟩ | ⟨v', hv', hr'⟩
        · simp only [List.mem_append, List.mem_cons] at hq
          rcases hq with hq | rfl | hq
          · exact .inl ⟨q, by simp [hq], hqd⟩
          · exact (hd hqd).elim
          · exact .inl ⟨q, by simp [hq], hqd⟩
        · refine .inr ⟨v', ?_, VRel.mono hxy _ _ hr'⟩
          rw [hdst]
          cases hdd : p.x.c.dst with
          | none => exact hv'
          | some d =>
            simp only [Act.put]
            rw [Array.getElem?_setIfInBounds_ne (fun hdk => hd (by rw [hdd, hdk]))]
            exact hv'
  have hgc : c.g = p.x.c.g := by rw [hcc]
  unfold wpOp
  simp only [ho]
  rcases h3 with ⟨hg, hev⟩ | ⟨hg, hu⟩
  · rw [if_pos (wanted_of hc hek (by rw [hgc, gOk_keep]; exact hg))]
    left
    have hev' : ev (keepE p.x.c.looks p.e) x.σ (eqK x.σ p.u) c.i := by
      have := hev
      rw [← ev_keep] at this
      rw [hcc] at this
      have h' := ev_fix this
      rw [hcc]
      exact h'
    refine exec_ev (cIn_some hc).1 (fun f as hi => ?_) h.wrel hek hev' ?_
    · rw [hcc, hi] at h2
      simp [I.fix, light] at h2
    · rintro y r' v hxy hy ⟨rfl, hσ⟩ hv
      exact fin y v hxy hy hσ hv
  · rw [if_neg (by rw [wanted_of hc hek (by rw [hgc, gOk_keep]; exact hg)]; simp)]
    refine fin x undef (Ext.refl x) h.wrel rfl ?_
    rw [hu]
    exact rel_undef x

/-- After the heavy one at the head has come up. -/
theorem exec_heavy {y : Ent} (hok : AllOk P ops n all) (h : Inv P ops n K x0 all A (y :: L) pend listed x e a) (hl : lightE y = none) (hr : y.j ∈ Region.ready .any ops listed) {Q : Exit → Act → World → Prop} {G : Act → World → Prop}
    (hG : ∀ z e' a', Inv P ops n K x0 all (A ++ [y]) L pend (listed.setIfInBounds y.j true) z e' a' → G a' z.w) : wpOp P ops Q y.j G a x.w := by
  have hyall : y ∈ all := by rw [h.split]; simp
  obtain ⟨o, c, ho, hc, hcc⟩ := hok.ins y hyall
  have hek := keep_rel hok h hyall hr (e1 := e) (fun _ _ => rfl)
  have hdst : o.dst = y.c.dst := by rw [hcc]; exact (cIn_some hc).2.1
  have hlt : ∀ k, y.c.dst = some k → k < n := by rw [hcc]; exact (cIn_some hc).2.2.1
  have hgc : c.g = y.c.g := by rw [hcc]
  have hent := hok.ents A y L h.split
  have fin : ∀ z u v, Ext x z → WRel z → VRel z u v → (y.b = true → preσ x.σ z.σ) → vcDr P L K ⟨.go, setD e y.c.dst u, z.σ⟩ → G (a.put o.dst v) z.w := by
    intro z u v hxz hz hv hpre hvc
    refine hG z (setD e y.c.dst u) _ ⟨by rw [h.split]; simp, by simpa using h.size, ?_, closed_set h hr, ?_, h.pdup, ?_, h.ext.trans hxz, hz, by rw [put_size]; exact h.tn, by rw [put_defers]; exact h.df, hvc⟩
    · intro j
      by_cases hj : y.j = j
      · subst hj
        simp only [getD_set_self, Bool.true_eq_false, false_iff, not_or, not_exists, not_and]
        refine ⟨fun m hm => ?_, fun q hq => ?_⟩
        · have hn := hok.nodup
          rw [h.split, List.map_append, List.map_cons, List.nodup_append] at hn
          have := (List.nodup_cons.1 hn.2.1).1
          intro heq
          exact this (List.mem_map.2 ⟨m, hm, heq⟩)
        · exact ne_j hok h.split (h.pnd q hq).1 (show y ∈ y :: L by simp)
      · rw [getD_set_ne true hj, h.un j]
        simp only [List.mem_cons, exists_eq_or_imp]
        constructor
        · rintro ((h' | h') | h')
          · exact (hj h').elim
          · exact .inl h'
          · exact .inr h'
        · rintro (h' | h')
          · exact .inl (.inr h')
          · exact .inr h'
    · intro p hp
      obtain ⟨h1, ⟨r, h2E⟩, h3, h4, h5, h6, h7⟩ := h.pnd p hp
      have h2 := lightE_some h2E
      refine ⟨by simp [h1], ⟨r, h2E⟩, ?_, fun k hk => ?_, fun d hd => ?_, fun m hm => h6 m (List.mem_cons_of_mem _ hm), fun m hm => h7 m (List.mem_cons_of_mem _ hm)⟩
      · rcases h3 with ⟨hg, hev⟩ | h3
        · refine .inl ⟨hg, light_pre h2 (fun hrt => ?_) hev⟩
          subst hrt
          cases hb : y.b with
          | true => exact hpre hb
          | false =>
            exfalso
            have hin := (hent.heavy hl).2 hb p.x h1 h2
            have := anc_listed h _ _ (preds_listed hr) _ hin
            rw [un_of h (.inr ⟨p, hp, rfl⟩)] at this
            cases this
        · exact .inr h3
      · rw [h4 k hk]
        exact (eget_setD fun hd => by
          have := preds_listed hr _ (h6 y (by simp) k hd hk).2
          rw [un_of h (.inr ⟨p, hp, rfl⟩)] at this
          cases this).symm
      · rw [eget_setD fun hd' => h7 y (by simp) d hd' hd]
        exact h5 d hd
    · intro k u' hk
      by_cases hd : y.c.dst = some k
      · refine .inr ⟨v, ?_, ?_⟩
        · rw [hdst, hd]
          have := hlt k hd
          simp [Act.put, h.tn, this]
        · rw [hd, eget_setD_same] at hk
          obtain rfl := Option.some.inj hk
          exact hv
      · rw [eget_setD hd] at hk
        rcases h.env k u' hk with h' | ⟨v', hv', hr'⟩
        · exact .inl h'
        · refine .inr ⟨v', ?_, VRel.mono hxz _ _ hr'⟩
          rw [hdst]
          cases hdd : y.c.dst with
          | none => exact hv'
          | some d =>
            simp only [Act.put]
            rw [Array.getElem?_setIfInBounds_ne (fun hdk => hd (by rw [hdd, hdk]))]
            exact hv'
  have hvc := h.vc
  simp only [vcDr] at hvc
  obtain ⟨w, hw, hk⟩ := wantK_gOk hvc
  unfold wpOp
  simp only [ho]
  cases w with
  | false =>
    rw [if_neg (by rw [wanted_of hc hek (by rw [hgc, gOk_keep]; exact hw)]; simp)]
    exact fin x (.tup []) undef (Ext.refl x) h.wrel (rel_undef x) (fun _ => ⟨[], by simp⟩) hk
  | true =>
    rw [if_pos (wanted_of hc hek (by rw [hgc, gOk_keep]; exact hw))]
    left
    have hk' : runI P y.c.dst (drK y.b x.σ (vcDr P L K)) e x.σ y.c.i := hk
    by_cases hcall : ∃ f as, c.i = .call f as
    · obtain ⟨f, as, hcall⟩ := hcall
      have hyi : y.c.i = .call f as := by rw [hcc, hcall]; rfl
      rw [hyi] at hk'
      simp only [runI] at hk'
      have hsl : ∀ k ∈ oSlots f ++ as.flatMap oSlots, eget (keepE y.c.looks e) k = eget e k := fun k hk => eget_keep (by simp only [In.looks, hyi, I.slots, List.mem_append]; exact .inl (List.mem_append.1 hk))
      rw [← callO_congr (e := keepE y.c.looks e) (fun k hk => hsl k (List.mem_append_left _ hk)) (opvs_congr (e := keepE y.c.looks e) (fun k hk => hsl k (List.mem_append_right _ hk)))] at hk'
      refine exec_call (by rw [(cIn_some hc).1, hcall]) h.wrel hek hk' fun z r v hxz hz hkk hv => fin z r v hxz hz hv hkk.1 hkk.2
    · have hn : ∀ f as, c.i ≠ .call f as := fun f as hi => hcall ⟨f, as, hi⟩
      have hny : ∀ f as, y.c.i ≠ .call f as := by
        rw [hcc]
        intro f as hi
        cases hci : c.i with
        | lit how a b d e => cases how <;> simp [hci, I.fix] at hi
        | call f as => exact hn f as hci
        | _ => simp [hci, I.fix] at hi
      have hev := runI_ev hny hk'
      rw [← ev_keep] at hev
      have hev2 : ev (keepE y.c.looks e) x.σ (iK e y.c.dst (drK y.b x.σ (vcDr P L K))) c.i := by
        apply ev_fix
        have : y.c.i = c.i.fix := by rw [hcc]
        rw [← this]
        exact hev
      refine exec_ev (cIn_some hc).1 hn h.wrel hek hev2 fun z r v hxz hz hkk hv => fin z _ v hxz hz hv hkk.1 hkk.2

/-- What may come up is, or can be made, pending; or it is heavy and at the head. -/
theorem advance (hok : AllOk P ops n all) {i : Nat} (hr : i ∈ Region.ready .any ops listed) : ∀ (L A : List Ent) (pend : List Pd) (e : Env), Inv P ops n K x0 all A L pend listed x e a →
    ∃ L' A' pend' e', Inv P ops n K x0 all A' L' pend' listed x e' a ∧ L'.length + pend'.length = L.length + pend.length ∧ ((∃ p ∈ pend', p.x.j = i) ∨ ∃ y L'', L' = y :: L'' ∧ y.j = i ∧ lightE y = none)
  | [], A, pend, e, h => by
    refine ⟨[], A, pend, e, h, rfl, .inl ?_⟩
    rcases (h.un i).1 (mem_ready.1 hr).1 with ⟨m, hm, _⟩ | h'
    · cases hm
    · exact h'
  | y :: L, A, pend, e, h => by
    cases hl : lightE y with
    | some r =>
      obtain ⟨u, e', h'⟩ := pop hok h hl
      obtain ⟨L', A', pend', e'', g1, g2, g3⟩ := advance hok hr L (A ++ [y]) _ e' h'
      exact ⟨L', A', pend', e'', g1, by rw [g2]; simp; omega, g3⟩
    | none =>
      refine ⟨y :: L, A, pend, e, h, rfl, ?_⟩
      rcases (h.un i).1 (mem_ready.1 hr).1 with ⟨m, hm, rfl⟩ | h'
      · simp only [List.mem_cons] at hm
        rcases hm with rfl | hm
        · exact .inr ⟨m, L, rfl, rfl, hl⟩
        · exfalso
          obtain ⟨p, hp, hh⟩ := ((hok.ents A y L h.split).heavy hl).1 m hm
          have h1 := preds_listed hr p hp
          rw [un_of h (.inl ?_)] at h1
          · cases h1
          · rcases hh with rfl | ⟨m', hm', rfl⟩
            · exact ⟨y, by simp, rfl⟩
            · exact ⟨m', by simp [hm'], rfl⟩
      · exact .inl h'

theorem progress (hok : AllOk P ops n all) (h : Inv P ops n K x0 all A L pend listed x e a) (h0 : Region.ready .any ops listed = []) : L = [] ∧ pend = [] := by
  -- the first in the list that has not come up yet
  have key : ∀ (B C : List Ent), all = B ++ C → (∀ m ∈ B, listed.getD m.j false = true) → ∀ m ∈ C, listed.getD m.j false = true := by
    intro B C
    induction C generalizing B with
    | nil => intro _ _ m hm; cases hm
    | cons y C ih =>
      intro hs hB
      have hy : listed.getD y.j false = true := by
        obtain ⟨o, c, ho, _, _⟩ := hok.ins y (by rw [hs]; simp)
        have hlt : y.j < listed.size := by rw [h.size]; exact (Array.getElem?_eq_some_iff.1 ho).1
        cases hd : listed.getD y.j false with
        | true => rfl
        | false =>
          have hd' : listed.getD y.j true = false := by
            rw [Array.getD_eq_getD_getElem?] at hd ⊢
            simpa [hlt] using hd
          have : y.j ∈ Region.ready .any ops listed := by
            rw [mem_ready]
            refine ⟨hd', o, ho, fun e' he hb => ?_⟩
            have hp : e'.on ∈ preds ops y.j := by
              simp only [preds, ho, List.mem_map, List.mem_filter]
              exact ⟨e', ⟨by simpa using he, hb⟩, rfl⟩
            obtain ⟨m, hm, hj⟩ := (hok.ents B y C hs).pre _ hp
            rw [← hj]
            exact hB m hm
          rw [h0] at this
          cases this
      intro m hm
      simp only [List.mem_cons] at hm
      rcases hm with rfl | hm
      · exact hy
      · refine ih (B ++ [y]) (by rw [hs]; simp) (fun m' hm' => ?_) m hm
        rcases List.mem_append.1 hm' with h' | h'
        · exact hB m' h'
        · simp only [List.mem_singleton] at h'; subst h'; exact hy
  have hall := key [] all (by simp) (fun m hm => by cases hm)
  constructor
  · cases L with
    | nil => rfl
    | cons y L =>
      have := hall y (by rw [h.split]; simp)
      rw [un_of h (.inl ⟨y, by simp, rfl⟩)] at this
      cases this
  · cases pend with
    | nil => rfl
    | cons p pend =>
      have := hall p.x (by rw [h.split]; exact List.mem_append_left _ (h.pnd p (by simp)).1)
      rw [un_of h (.inr ⟨p, by simp, rfl⟩)] at this
      cases this

theorem any_sound (hok : AllOk P ops n all) {Q : Exit → Act → World → Prop} (hQ : ∀ a w, Post x0 n K a w → Q .normal a w) : ∀ (fuel : Nat) (listed : Array Bool) (L A : List Ent) (pend : List Pd) (x : Cx) (e : Env) (a : Act),
    fuel = L.length + pend.length → Inv P ops n K x0 all A L pend listed x e a → wpAny P .any ops Q fuel listed a x.w := by
  have done : ∀ {listed : Array Bool} {A : List Ent} {x : Cx} {e : Env} {a : Act}, Inv P ops n K x0 all A [] [] listed x e a → Q .normal a x.w := by
    intro listed A x e a h
    refine hQ _ _ ⟨x, e, h.vc, fun k u hk => ?_, h.wrel, h.ext, rfl, h.tn, h.df⟩
    rcases h.env k u hk with ⟨p, hp, _⟩ | h1
    · cases hp
    · exact h1
  intro fuel
  induction fuel with
  | zero =>
    intro listed L A pend x e a hf h
    have hL : L = [] := List.eq_nil_of_length_eq_zero (by omega)
    have hp : pend = [] := List.eq_nil_of_length_eq_zero (by omega)
    subst hL hp
    refine ⟨?_, done h⟩
    apply List.eq_nil_iff_forall_not_mem.2
    intro i hi
    rcases (h.un i).1 (mem_ready.1 hi).1 with ⟨m, hm, _⟩ | ⟨m, hm, _⟩ <;> cases hm
  | succ fuel ih =>
    intro listed L A pend x e a hf h
    refine ⟨fun h0 => ?_, fun i hi => ?_⟩
    · obtain ⟨rfl, rfl⟩ := progress hok h h0
      exact done h
    · obtain ⟨L', A', pend', e', h', hlen, hcase⟩ := advance hok hi L A pend e h
      rcases hcase with ⟨p, hp, rfl⟩ | ⟨y, L'', rfl, rfl, hl⟩
      · obtain ⟨P1, P2, rfl⟩ := List.append_of_mem hp
        refine exec_pend hok h' hi fun y a' hy => ih _ L' A' (P1 ++ P2) y e' a' ?_ hy
        simp only [List.length_append, List.length_cons] at hlen ⊢
        omega
      · refine exec_heavy hok h' hl hi fun z e'' a' hz => ih _ L'' (A' ++ [y]) pend' z e'' a' ?_ hz
        simp only [List.length_cons] at hlen
        omega

theorem drawn_sound (hok : AllOk P ops n all) (hm : P.follows .mixedOrders = true) {Q : Exit → Act → World → Prop} (hQ : ∀ a w, Post x0 n K a w → Q .normal a w) {id : Nat} (h0 : Ext x0 x) (hx : WRel x) (he : ERel x e a.tmps) (hn : a.tmps.size = n) (hd : a.defers = []) (hk : vcDr P all K ⟨.go, e, x.σ⟩) :
    (Code.region id ops true).wp P Q a x.w := by
  refine wp_region_any hm ?_
  have hlen : ops.size = all.length := by
    have h1 : ∀ k, k ∈ all.map (·.j) ↔ k ∈ List.range ops.size := by
      intro k
      simp only [List.mem_map, List.mem_range]
      constructor
      · rintro ⟨m, hm, rfl⟩
        obtain ⟨o, c, ho, _⟩ := hok.ins m hm
        exact (Array.getElem?_eq_some_iff.1 ho).1
      · intro hk
        exact hok.whole k hk
    have := ((List.perm_ext_iff_of_nodup hok.nodup List.nodup_range).2 h1).length_eq
    simpa using this.symm
  have hun : ∀ j, (Array.replicate ops.size false).getD j true = false ↔ j < ops.size := by
    intro j
    rw [Array.getD_eq_getD_getElem?, Array.getElem?_replicate]
    split <;> simp_all
  have hfal : ∀ j, (Array.replicate ops.size false).getD j false = false := by
    intro j
    rw [Array.getD_eq_getD_getElem?, Array.getElem?_replicate]
    split <;> simp
  refine any_sound (x0 := x0) hok hQ ops.size _ all [] [] { x with w := x.w.drew } e a (by simp [hlen]) ?_
  refine ⟨by simp, by simp, ?_, ?_, by simp, by simp, ?_, h0.trans (ext_drew x), wrel_drew hx, hn, hd, hk⟩
  · intro j
    rw [hun]
    constructor
    · intro hj; exact .inl (hok.whole j hj)
    · rintro (⟨m, hm, rfl⟩ | ⟨m, hm, _⟩)
      · obtain ⟨o, c, ho, _⟩ := hok.ins m hm
        exact (Array.getElem?_eq_some_iff.1 ho).1
      · cases hm
  · intro j hj; rw [hfal] at hj; cases hj
  · intro k u hk'
    obtain ⟨v, h1, h2⟩ := he k u hk'
    exact .inr ⟨v, h1, VRel.mono (ext_drew x) _ _ h2⟩
end
end Go.Ab
