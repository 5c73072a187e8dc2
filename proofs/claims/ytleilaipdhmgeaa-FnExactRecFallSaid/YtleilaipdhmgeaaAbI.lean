/- Whole functions in our logic: a contract out of the conditions that its code gives. Conditions: none (a library of lemmas). -/
import Derived.Test.YtleilaipdhmgeaaAbH
set_option linter.unusedSimpArgs false
set_option linter.unusedVariables false
set_option linter.defProp false
namespace Go.Ab

inductive RS where
  | tmp (k : Nat)
  | cell (k : Nat) (n : Option Nat)
def resSlots (P : Program) : List ResultVar → Option (List RS)
  | [] => some []
  | .tmp t :: rs => (resSlots P rs).map (.tmp t :: ·)
  | .cell a t :: rs => match spanOf P t, resSlots P rs with
    | some n, some rs => some (.cell a n :: rs)
    | _, _ => none

/-- The results, read where the function ends. -/
def getsK (e : Env) (σ : Store) : Tok → List RS → (Tok → List V → Prop) → Prop
  | t, [], K => K t []
  | _, .tmp k :: rs, K => onV (eget e k) fun t u => getsK e σ t rs fun t us => K t (u :: us)
  | _, .cell k n :: rs, K => onV (eget e k) fun t a => evLoad n σ a fun _ u => getsK e σ t rs fun t us => K t (u :: us)

def mkRes : List V → V
  | [u] => u
  | us => .tup us

/-- What must hold where the function ends: the result's slots are known, and behind dropping what is its own R holds. -/
def retV (b : Nat) (R : V → Store → Prop) (σ : Store) : Option (List V) → Prop
  | none => False
  | some us => ∃ m, (b ≤ m ∧ (σ.length ≤ m ∨ ((mkRes us).lt m = true ∧ ltσ m (σ.take m) = true))) ∧ R (mkRes us) (σ.take m)
def retK (rs : List RS) (b : Nat) (R : V → Store → Prop) : Ex → St → Prop
  | .n, s => getsK s.e s.σ .go rs fun _ us => retV b R s.σ (some us)
  | .r, s => getsK s.e s.σ .go rs fun _ us => retV b R s.σ (some us)
  | .x _, _ => False

def env0 : Nat → List V → Env
  | _, [] => []
  | k, u :: us => (k, u) :: env0 (k + 1) us

mutual
theorem VRel.ltσ {x : Cx} : ∀ (u : V) (v : Value), VRel x u v → u.lt x.σ.length = true
  | .t t, v, h => rfl
  | .nils, _, h => rfl
  | .nilp, _, h => rfl
  | .nilf, _, h => rfl
  | .nili, _, h => rfl
  | .pv cs, v, h => rfl
  | .ptr id off, v, h => by
    simp only [VRel, V.lt, decide_eq_true_eq] at h ⊢
    obtain ⟨cs, b, ho, h⟩ := h
    exact (List.getElem?_eq_some_iff.1 ho).1
  | .ep id g i j, v, h => by
    simp only [VRel, V.lt, decide_eq_true_eq] at h ⊢
    obtain ⟨o, ho, h⟩ := h
    exact (List.getElem?_eq_some_iff.1 ho).1
  | .sl id g off len, v, h => by
    simp only [VRel, V.lt, decide_eq_true_eq] at h ⊢
    obtain ⟨o, ho, h⟩ := h
    exact (List.getElem?_eq_some_iff.1 ho).1
  | .map id, v, h => by
    simp only [VRel, V.lt, decide_eq_true_eq] at h ⊢
    obtain ⟨c, es, b, ho, h⟩ := h
    exact (List.getElem?_eq_some_iff.1 ho).1
  | .rows sz rs, v, h => by
    simp only [VRel, V.lt] at h ⊢
    obtain ⟨a, hv, h | ⟨b, off, ha, hf, hr⟩⟩ := h
    · have : rs = [] := by simpa using h
      subst this
      rfl
    · exact VRows.ltσ rs b off hr
  | .agg cs, v, h => by
    simp only [VRel, V.lt] at h ⊢
    obtain ⟨l, hv, h⟩ := h
    exact VsRel.ltσ cs l h
  | .tup cs, v, h => by
    simp only [VRel, V.lt] at h ⊢
    obtain ⟨l, hv, h⟩ := h
    exact VsRel.ltσ cs l h
  | .fn f cs, v, h => by
    simp only [VRel, V.lt] at h ⊢
    obtain ⟨l, hv, h⟩ := h
    exact VsRel.ltσ cs l h
  | .iface ty u, v, h => by
    simp only [VRel, V.lt] at h ⊢
    obtain ⟨c, hv, h⟩ := h
    exact VRel.ltσ u c h
theorem VsRel.ltσ {x : Cx} : ∀ (us : List V) (l : List Value), VsRel x us l → V.lts x.σ.length us = true
  | [], _, h => by simp [V.lts]
  | u :: us, l, h => by
    simp only [VsRel, V.lts, Bool.and_eq_true] at h ⊢
    obtain ⟨c, cs, hl, hu, h⟩ := h
    exact ⟨VRel.ltσ u c hu, VsRel.ltσ us cs h⟩
theorem VRows.ltσ {x : Cx} {sz : Nat} : ∀ (rows : List (List V)) (b off : Nat), VRows x sz rows b off → V.ltss x.σ.length rows = true
  | [], _, _, _ => by simp [V.ltss]
  | r :: rs, b, off, h => by
    simp only [VRows, V.ltss, Bool.and_eq_true] at h ⊢
    exact ⟨VCells.ltσ r b off h.2.1, VRows.ltσ rs b (off + sz) h.2.2⟩
theorem VCells.ltσ {x : Cx} : ∀ (cs : List V) (b off : Nat), VCells x cs b off → V.lts x.σ.length cs = true
  | [], _, _, _ => by simp [V.lts]
  | u :: us, b, off, h => by
    simp only [VCells, V.lts, Bool.and_eq_true] at h ⊢
    obtain ⟨⟨c, hc, hx⟩, h⟩ := h
    exact ⟨VRel.ltσ u c hx, VCells.ltσ us b (off + 1) h⟩
end

theorem flatten_lts {m : Nat} : ∀ {rows : List (List V)}, V.lts m rows.flatten = true → V.ltss m rows = true
  | [], _ => by simp [V.ltss]
  | r :: rs, h => by
    have app : ∀ {a b : List V}, V.lts m (a ++ b) = true → V.lts m a = true ∧ V.lts m b = true := by
      intro a b
      induction a with
      | nil => intro h; exact ⟨rfl, h⟩
      | cons u us ih =>
        intro h
        simp only [V.lts, Bool.and_eq_true, List.cons_append] at h ⊢
        exact ⟨⟨h.1, (ih h.2).1⟩, (ih h.2).2⟩
    have h' := app (show V.lts m (r ++ rs.flatten) = true by simpa using h)
    simp only [V.ltss, Bool.and_eq_true]
    exact ⟨h'.1, flatten_lts h'.2⟩

theorem MRel.ltσ {x : Cx} : ∀ {es : List ME} {l : List MapEntry}, MRel x es l → (es.all fun p => p.k.lt x.σ.length && p.v.lt x.σ.length) = true
  | [], _, _ => rfl
  | m :: es, l, h => by
    simp only [MRel] at h
    obtain ⟨c, cs, hl, h1, h2, hb, h3⟩ := h
    simp only [List.all_cons, Bool.and_eq_true]
    exact ⟨⟨VRel.ltσ _ _ h1, VRel.ltσ _ _ h2⟩, by simpa using MRel.ltσ h3⟩

/-- Every store that a world goes with names nothing beyond itself. -/
theorem WRel.closed {x : Cx} (hx : WRel x) : ltσ x.σ.length x.σ = true := by
  refine List.all_eq_true.2 fun o ho => ?_
  obtain ⟨id, hid, rfl⟩ := List.getElem_of_mem ho
  have h := hx.objs id x.σ[id] (by simp [hid])
  cases hob : x.σ[id] with
  | box cs =>
    rw [hob] at h
    obtain ⟨b, arr, ty, fr, h1, h2, h3, h4, h5⟩ := h
    exact VsRel.ltσ _ _ h5
  | slc sz rows =>
    rw [hob] at h
    rcases h with ⟨h, _⟩ | ⟨b, arr, ty, fr, l, h1, h2, h3, h4, h5, h6, h7, h8, h9⟩
    · subst h; rfl
    · exact flatten_lts (VsRel.ltσ _ _ h8)
  | map c es =>
    rw [hob] at h
    obtain ⟨b, arr, h1, h2, h3, h4⟩ := h
    exact MRel.ltσ h4

section
variable {P : Program}

theorem env0_get {x : Cx} : ∀ {us : List V} {l : List Value} {j : Nat} {tmps : List Value}, VsRel x us l → (∀ k v, l[k]? = some v → tmps[j + k]? = some v) → ∀ k u, eget (env0 j us) k = some u → ∃ v, tmps[k]? = some v ∧ VRel x u v
  | [], _, _, _, _, _, k, u, h => by simp [env0, eget] at h
  | w :: us, l, j, tmps, hl, ht, k, u, h => by
    simp only [VsRel] at hl
    obtain ⟨c, cs, rfl, hc, hcs⟩ := hl
    simp only [env0, eget] at h
    split at h
    · rename_i hk; subst hk
      obtain rfl := Option.some.inj h
      exact ⟨c, by simpa using ht 0 c rfl, hc⟩
    · exact env0_get (j := j + 1) hcs (fun i v hi => by rw [show j + 1 + i = j + (i + 1) by omega]; exact ht (i + 1) v (by simpa using hi)) k u h

def resVal : List Value → Value
  | [v] => v
  | vs => .tuple vs.toArray

theorem load_run {x : Cx} (hx : WRel x) {v : Value} {u : V} (hr : VRel x u v) {t : TypeId} {n : Option Nat} (hs : spanOf P t = some n) {K : Tok → V → Prop} (hk : evLoad n x.σ u K) :
    ∃ ad v' u', v = .pointer (some ad) ∧ (loadVar t ad).run P x.w = .ok v' x.w ∧ VRel x u' v' ∧ K .go u' := by
  have fin : ∀ {b off : Nat} {cs : List V} {l : List Value}, v = .pointer (some ⟨b, off, none⟩) → VsRel x cs l → (∀ j v, l[j]? = some v → x.w.cell? ⟨b, off + j, none⟩ = some v) → ldV n cs K →
      ∃ ad v' u', v = .pointer (some ad) ∧ (loadVar t ad).run P x.w = .ok v' x.w ∧ VRel x u' v' ∧ K .go u' := by
    intro b off cs l hv hl hcell hk
    obtain ⟨v, u, hrun, hru, hk⟩ := ld_sound hs hl hcell hk
    exact ⟨_, v, u, hv, hrun, hru, hk⟩
  unfold evLoad at hk
  split at hk
  · rename_i cs
    simp only [VRel] at hr
    obtain ⟨b, off, hv, hF, hc⟩ := hr
    obtain ⟨l, hl, hcell⟩ := TCells.list (F := x.F) hc
    exact fin hv hl hcell (ldT_ldV hk)
  · rename_i id off
    obtain ⟨cs, ho, hk⟩ := onBox_some hk
    simp only [VRel] at hr
    obtain ⟨cs', b, ho', hb, hv⟩ := hr
    obtain ⟨arr, ty, fr, h1, h2, h3, h4, h5⟩ := box_cells hx ho hb
    exact fin hv (h4.drop off) (fun j v hj => by rw [h5]; rw [List.getElem?_drop] at hj; simpa using hj) hk
  · rename_i id g i j
    obtain ⟨sz, rows, ho, hk2⟩ := onSlc_some hk
    clear hk
    obtain ⟨hg, hk2⟩ := hk2
    subst hg
    obtain ⟨r, hrow, hk⟩ := onRow_some hk2
    simp only [VRel] at hr
    obtain ⟨ob, ho', _, ad, hv, hr⟩ := hr
    rw [ho] at ho'
    obtain rfl := Option.some.inj ho'
    obtain ⟨b, sz', rows', hb, heq, rfl⟩ := hr rfl
    cases heq
    obtain ⟨h1, _⟩ | ⟨b', arr, ty, fr, l, h1, h2, h3, h4, h5, h6, h7, h8, h9⟩ := hx.objs id _ ho
    · subst h1; simp at hrow
    · rw [h1] at hb
      obtain rfl := Option.some.inj hb
      have hc := rows_get h7 h8 hrow
      refine fin (l := ((l.drop (i * sz)).take sz).drop j) hv (hc.drop j) (fun k v hk' => ?_) hk
      have hk2 : l[i * sz + j + k]? = some v := by
        rw [List.getElem?_drop, List.getElem?_take] at hk'
        split at hk'
        · rw [List.getElem?_drop] at hk'
          rw [show i * sz + j + k = i * sz + (j + k) by omega]
          exact hk'
        · cases hk'
      have : arr.toList[i * sz + j + k]? = some v := by
        obtain ⟨⟨m, hm⟩, _⟩ := h9
        rw [← hm, List.getElem?_append_left (List.getElem?_eq_some_iff.1 hk2).1]
        exact hk2
      simp only [World.cell?, h3]
      simpa using this
  · exact hk.elim

def resOne (tmps : Array Value) : ResultVar → Sem Value
  | .tmp t => pure (tmps.getD t undef)
  | .cell a t => do loadVar t (← asAddr (tmps.getD a undef))
theorem results_eq (fn : Func) (tmps : Array Value) : results fn tmps = (do
    let vs ← fn.results.mapM (resOne tmps)
    pure (if h : vs.size = 1 then vs[0] else Value.tuple vs)) := by
  have : resOne tmps = (fun x => match x with
      | ResultVar.tmp t => pure (tmps.getD t undef)
      | ResultVar.cell a t => do loadVar t (← asAddr (tmps.getD a undef))) := by
    funext r; cases r <;> rfl
  rw [this]
  rfl

theorem results_run {x : Cx} (hx : WRel x) {e : Env} {tmps : Array Value} (he : ERel x e tmps) {fn : Func} {rs : List RS} (h : resSlots P fn.results.toList = some rs) {K : Tok → List V → Prop} (hk : getsK e x.σ .go rs K) :
    ∃ us l, K .go us ∧ VsRel x us l ∧ (results fn tmps).run P x.w = .ok (resVal l) x.w := by
  have key : ∀ (g : ResultVar → Sem Value), (∀ t, g (.tmp t) = pure (tmps.getD t undef)) → (∀ a t, g (.cell a t) = (do loadVar t (← asAddr (tmps.getD a undef)))) → ∀ (l : List ResultVar) (rs : List RS), resSlots P l = some rs → ∀ K : Tok → List V → Prop, getsK e x.σ .go rs K →
      ∃ us vs, K .go us ∧ VsRel x us vs ∧ (l.mapM g).run P x.w = .ok vs x.w := by
    intro g hg hg2 l
    induction l with
    | nil => intro rs h K hk; simp [resSlots] at h; subst h; exact ⟨[], [], hk, by simp [VsRel], by simp⟩
    | cons r l ih =>
      intro rs h K hk
      cases r with
      | cell a t =>
        simp only [resSlots] at h
        split at h
        · rename_i n rs' hs h'
          obtain rfl := Option.some.inj h
          simp only [getsK] at hk
          obtain ⟨u, hu, hk1⟩ := onV_some hk
          obtain ⟨v, hv, hr⟩ := he a u hu
          obtain ⟨ad, v', u', rfl, hrun, hru, hk2⟩ := load_run hx hr hs hk1
          obtain ⟨us, vs, h1, h2, h3⟩ := ih rs' h' _ hk2
          refine ⟨u' :: us, v' :: vs, h1, by simp only [VsRel]; exact ⟨_, _, rfl, hru, h2⟩, ?_⟩
          have hd : tmps.getD a undef = .pointer (some ad) := by simp only [Array.getD_eq_getD_getElem?, hv, Option.getD_some]
          simp only [List.mapM_cons, hg2, hd, asAddr, Sem.run_bind, Sem.run_pure, Result.andThen_ok, hrun, h3]
        · cases h
      | tmp t =>
        simp only [resSlots] at h
        obtain ⟨rs', h', rfl⟩ := map_some h
        simp only [getsK] at hk
        obtain ⟨u, hu, hk1⟩ := onV_some hk
        obtain ⟨v, hv, hr⟩ := he t u hu
        obtain ⟨us, vs, h1, h2, h3⟩ := ih rs' h' _ hk1
        refine ⟨u :: us, v :: vs, h1, by simp only [VsRel]; exact ⟨_, _, rfl, hr, h2⟩, ?_⟩
        have hd : tmps.getD t undef = v := by simp only [Array.getD_eq_getD_getElem?, hv, Option.getD_some]
        simp only [List.mapM_cons, hg, hd, Sem.run_bind, Sem.run_pure, Result.andThen_ok, h3]
  obtain ⟨us, vs, h1, h2, h3⟩ := key (resOne tmps) (fun t => rfl) (fun a t => rfl) _ _ h K hk
  refine ⟨us, vs, h1, h2, ?_⟩
  rw [results_eq]
  rw [Array.mapM_eq_mapM_toList, Sem.run_bind, Sem.run_map, h3]
  simp only [Result.andThen_ok]
  match vs with
  | [] => simp [resVal]
  | [r] => simp [resVal]
  | r :: r' :: rs => simp [resVal]

theorem mkRes_rel {x : Cx} {us : List V} {l : List Value} (h : VsRel x us l) : VRel x (mkRes us) (resVal l) := by
  match us, l, h with
  | [], l, h => simp only [VsRel] at h; subst h; simp only [mkRes, VRel]; exact ⟨[], rfl, rfl⟩
  | [u], l, h =>
    simp only [VsRel] at h
    obtain ⟨c, cs, rfl, hc, rfl⟩ := h
    exact hc
  | u :: u' :: us, l, h =>
    have h' := h
    simp only [VsRel] at h
    obtain ⟨c, cs, rfl, hc, d, ds, rfl, _⟩ := h
    simp only [mkRes, VRel]
    exact ⟨_, rfl, h'⟩

/-- A contract out of the code's conditions. -/
theorem acalls_of {f : FuncId} {fn : Func} {code : Code} {c : C} {n : Nat} {rs : List RS} {args : List V} {σ : Store} {R : V → Store → Prop} (hf : P.funcs[f]? = some fn) (hname : (fn.name == "runtime.NumGoroutine") = false) (hb : fn.body = some code)
    (hn : fn.ntmps = n) (hc : comp P n code = some c) (hrs : resSlots P fn.results.toList = some rs) (hargs : args.length ≤ n) (h : ltσ σ.length σ = true → vc P σ.length c (retK rs σ.length R) ⟨.go, env0 0 args, σ⟩) : ACalls P f args σ R := by
  refine ⟨⟨fn, hf, hname, by rw [hb]; rfl⟩, fun x cargs hσ hx ha => ?_⟩
  subst hσ
  have hlen := ha.length
  refine calls_of_wp hf hb ?_
  rw [hn]
  refine wp_mono (vc_sound (x0 := x) hc (h hx.closed) x _ rfl (Ext.refl x) hx ?_ (by simp; omega) rfl) ?_
  · intro k u hu
    obtain ⟨v, hv, hr⟩ := env0_get (tmps := cargs) (j := 0) ha (fun k v h => by simpa using h) k u hu
    refine ⟨v, ?_, hr⟩
    have hk := (List.getElem?_eq_some_iff.1 hv).1
    rw [Array.getElem?_append_left (by simpa using hk)]
    simpa using hv
  · rintro ex a' w' ⟨k, hk, y, e', hq, he', hy, h0', rfl, hn', hd'⟩
    have fin : (getsK e' y.σ .go rs fun _ us => retV x.σ.length R y.σ (some us)) → a'.defers = [] ∧ ∃ v, (results fn a'.tmps).run P y.w = .ok v y.w ∧ ∃ v' y' r, Ending.returned v = .returned v' ∧ y'.w = y.w ∧ R r y'.σ ∧ VRel y' r v' ∧ WRel y' ∧ Ext x y' := by
      intro hq
      obtain ⟨us, l, ⟨m, ⟨hbm, hm⟩, hR⟩, hl, hrun⟩ := results_run hy he' hrs hq
      have hrel := mkRes_rel hl
      rcases hm with hm | ⟨hm1, hm2⟩
      · rw [List.take_of_length_le hm] at hR
        exact ⟨hd', _, hrun, _, y, mkRes us, rfl, rfl, hR, hrel, hy, h0'⟩
      · exact ⟨hd', _, hrun, _, { y with σ := y.σ.take m }, mkRes us, rfl, rfl, hR, VRel.cut _ _ hm1 hrel, hy.cut hm2, h0'.cut hbm⟩
    cases ex <;> cases k <;> simp only [exIs] at hk
    · exact fin hq
    · exact hq.elim
    · exact fin hq
end
end Go.Ab
