/- What an instruction looks at; that the light ones give one value and leave the store. Conditions: none (a library of lemmas). -/
import Derived.Test.YtleilaipdhmgeaaAbG
set_option linter.unusedSimpArgs false
set_option linter.unusedVariables false
set_option linter.defProp false
namespace Go.Ab

def oSlots : O → List Nat
  | .t k => [k]
  | .c _ => []
  | .m k _ => [k]
def ooSlots : Option O → List Nat
  | some o => oSlots o
  | none => []
def I.slots : I → List Nat
  | .mv x => oSlots x
  | .pick c a b => oSlots c ++ oSlots a ++ oSlots b
  | .new _ => []
  | .box x => oSlots x
  | .load _ a => oSlots a
  | .store _ a x => oSlots a ++ oSlots x
  | .nilCheck x => oSlots x
  | .bin _ x y => oSlots x ++ oSlots y
  | .eqB _ x y => oSlots x ++ oSlots y
  | .eqP _ x y => oSlots x ++ oSlots y
  | .eqS _ x y => oSlots x ++ oSlots y
  | .un _ x => oSlots x
  | .convInt _ x => oSlots x
  | .sliceStr x lo hi => oSlots x ++ ooSlots lo ++ ooSlots hi
  | .sliceSl _ x lo hi => oSlots x ++ ooSlots lo ++ ooSlots hi
  | .fieldAddr _ x => oSlots x
  | .field _ _ x => oSlots x
  | .indexAddr _ x i => oSlots x ++ oSlots i
  | .index x i => oSlots x ++ oSlots i
  | .extract x _ => oSlots x
  | .len _ x => oSlots x
  | .mkSl _ _ _ l c => oSlots l ++ oSlots c
  | .lit _ _ _ _ ps => ps.flatMap fun p => oSlots p.2
  | .append _ _ x y => oSlots x ++ oSlots y
  | .build _ ps => ps.flatMap fun p => oSlots p.2.2
  | .convStr x => oSlots x
  | .strBytes x => oSlots x
  | .bytesStr x => oSlots x
  | .mkMap => []
  | .look _ _ _ m k => oSlots m ++ oSlots k
  | .mapUp _ m k v => oSlots m ++ oSlots k ++ oSlots v
  | .mapEnt _ _ m k => oSlots m ++ oSlots k
  | .entSt m s v => oSlots m ++ oSlots s ++ oSlots v
  | .lenM x => oSlots x
  | .eqA _ _ x y => oSlots x ++ oSlots y
  | .iface _ x => oSlots x
  | .fn _ caps => caps.flatMap oSlots
  | .copy _ x y => oSlots x ++ oSlots y
  | .mm _ x y => oSlots x ++ oSlots y
  | .call f as => oSlots f ++ as.flatMap oSlots
def In.looks (c : In) : List Nat := c.i.slots ++ (match c.g with | some (s, _) => [s] | none => [])

/-- Light: one value, the store as it was; whether it reads the store. -/
def light : I → Option Bool
  | .new _ | .box _ | .store _ _ _ | .mkSl _ _ _ _ _ | .append _ _ _ _ | .strBytes _ | .call _ _ | .mkMap | .mapUp _ _ _ _ | .mapEnt _ _ _ _ | .entSt _ _ _ | .copy _ _ _ => none
  | .lit (some false) _ _ _ _ => some false
  | .lit _ _ _ _ _ => none
  | .load _ _ | .indexAddr _ _ _ | .bytesStr _ | .look _ _ _ _ _ | .lenM _ | .sliceSl _ _ _ _ => some true
  | _ => some false

theorem opv_congr {e e' : Env} {o : O} (h : ∀ k ∈ oSlots o, eget e k = eget e' k) : opv e o = opv e' o := by
  cases o with
  | t k => exact h k (by simp [oSlots])
  | c v => rfl
  | m k n => rfl
theorem opvs_congr {e e' : Env} : ∀ {os : List O}, (∀ k ∈ os.flatMap oSlots, eget e k = eget e' k) → opvs e os = opvs e' os
  | [], _ => rfl
  | o :: os, h => by
    simp only [List.flatMap_cons, List.mem_append] at h
    simp only [opvs, opv_congr (fun k hk => h k (.inl hk)), opvs_congr (fun k hk => h k (.inr hk))]
theorem callO_congr {P : Program} {e e' : Env} {σ : Store} {f : O} {us us' : Option (List V)} {K : Tok → V → Store → Prop} (h : ∀ k ∈ oSlots f, eget e k = eget e' k) (hu : us = us') : callO P e σ f us K = callO P e' σ f us' K := by
  subst hu
  cases f with
  | t k => simp only [callO, h k (by simp [oSlots])]
  | c v => rfl
  | m k n => simp only [callO, h k (by simp [oSlots])]
theorem bnd_congr {e e' : Env} {o : Option O} {n : Nat} {K : Tok → Nat → Prop} (h : ∀ k ∈ ooSlots o, eget e k = eget e' k) : bnd e o n K = bnd e' o n K := by
  cases o with
  | none => rfl
  | some o => simp only [bnd, opv_congr (o := o) h]
theorem litRows_congr {e e' : Env} {sz : Nat} {K : Tok → List (List V) → Prop} : ∀ {ps : List (Nat × O)} {t : Tok} {rs : List (List V)}, (∀ k ∈ ps.flatMap (fun p => oSlots p.2), eget e k = eget e' k) → litRows e sz t rs ps K = litRows e' sz t rs ps K
  | [], _, _, _ => rfl
  | (i, o) :: ps, t, rs, h => by
    simp only [List.flatMap_cons, List.mem_append] at h
    simp only [litRows, opv_congr (fun k hk => h k (.inl hk))]
    congr 1
    funext t u
    congr 1
    funext t' us
    rw [litRows_congr (fun k hk => h k (.inr hk))]
theorem fillV_congr {e e' : Env} {K : Tok → List V → Prop} : ∀ {ps : List (Nat × Nat × O)} {t : Tok} {cs : List V}, (∀ k ∈ ps.flatMap (fun p => oSlots p.2.2), eget e k = eget e' k) → fillV e t cs ps K = fillV e' t cs ps K
  | [], _, _, _ => rfl
  | (i, s, o) :: ps, t, rs, h => by
    simp only [List.flatMap_cons, List.mem_append] at h
    simp only [fillV, opv_congr (fun k hk => h k (.inl hk))]
    congr 1
    funext t u
    congr 1
    funext t' us
    rw [fillV_congr (fun k hk => h k (.inr hk))]

theorem ev_congr {e e' : Env} {σ : Store} {K : Tok → Option V → Store → Prop} {i : I} (h : ∀ k ∈ i.slots, eget e k = eget e' k) : ev e σ K i = ev e' σ K i := by
  have h1 : ∀ {o : O}, (∀ k ∈ oSlots o, k ∈ i.slots) → opv e o = opv e' o := fun hs => opv_congr fun k hk => h k (hs k hk)
  have h2 : ∀ {o : Option O} {n : Nat} {K : Tok → Nat → Prop}, (∀ k ∈ ooSlots o, k ∈ i.slots) → bnd e o n K = bnd e' o n K := fun hs => bnd_congr fun k hk => h k (hs k hk)
  cases i with
  | lit how sz n z ps => simp only [ev]; exact litRows_congr h
  | build z ps => simp only [ev]; exact fillV_congr h
  | new cs => rfl
  | mkMap => rfl
  | call f as => rfl
  | fn f caps => simp only [ev]; rw [opvs_congr h]
  | sliceStr x lo hi =>
    simp only [ev]
    rw [h1 (fun k hk => by simp [I.slots, hk])]
    congr 1
    funext t u
    cases u <;> try rfl
    rename_i y
    cases y <;> try rfl
    simp only [evSliceStr, evSlice]
    rw [h2 (fun k hk => by simp [I.slots, hk])]
    congr 1
    funext t' m
    rw [h2 (fun k hk => by simp [I.slots, hk])]
  | sliceSl n x lo hi =>
    simp only [ev]
    rw [h1 (fun k hk => by simp [I.slots, hk])]
    congr 1
    funext t u
    have h3 : ∀ {n : Nat} {K : Tok → Nat → Nat → Prop}, evSlice e n lo hi K = evSlice e' n lo hi K := by
      intro n K
      simp only [evSlice]
      rw [h2 (fun k hk => by simp [I.slots, hk])]
      congr 1
      funext t' m
      rw [h2 (fun k hk => by simp [I.slots, hk])]
    cases u with
    | t y => cases y <;> simp only [evSliceSl, h3]
    | nils => simp only [evSliceSl, h3]
    | sl id g off len => simp only [evSliceSl, h3]
    | _ => rfl
  | pick c a b => simp only [ev, h1 (o := c) (fun k hk => by simp [I.slots, hk]), h1 (o := a) (fun k hk => by simp [I.slots, hk]), h1 (o := b) (fun k hk => by simp [I.slots, hk])]
  | mv x | box x | load _ x | nilCheck x | un _ x | convInt _ x | fieldAddr _ x | field _ _ x | extract x _ | len _ x | convStr x | strBytes x | bytesStr x | lenM x | iface _ x => simp only [ev, h1 (o := x) (fun k hk => by simp [I.slots, hk])]
  | mapUp _ x y z | entSt x y z => simp only [ev, h1 (o := x) (fun k hk => by simp [I.slots, hk]), h1 (o := y) (fun k hk => by simp [I.slots, hk]), h1 (o := z) (fun k hk => by simp [I.slots, hk])]
  | look _ _ _ x y | mapEnt _ _ x y | eqA _ _ x y | copy _ x y | mm _ x y | store _ x y | bin _ x y | eqB _ x y | eqP _ x y | eqS _ x y | indexAddr _ x y | index x y | mkSl _ _ _ x y | append _ _ x y => simp only [ev, h1 (o := x) (fun k hk => by simp [I.slots, hk]), h1 (o := y) (fun k hk => by simp [I.slots, hk])]

/-! ### conditions that use what follows once -/
def Once {α : Type} (F : (Tok → α → Prop) → Prop) : Prop := ∀ K, F K → ∃ u, K .go u ∧ ∀ K' : Tok → α → Prop, K' .go u → F K'
theorem Once.go {α : Type} (v : α) : Once fun K : Tok → α → Prop => K .go v := fun _ h => ⟨v, h, fun _ h => h⟩
theorem Once.no {α : Type} : Once fun _ : Tok → α → Prop => False := fun _ h => h.elim
theorem Once.and {α : Type} {p : Prop} {F : (Tok → α → Prop) → Prop} (h : Once F) : Once fun K => p ∧ F K := fun K hk =>
  let ⟨u, h1, h2⟩ := h K hk.2
  ⟨u, h1, fun K' hk' => ⟨hk.1, h2 K' hk'⟩⟩
theorem Once.via {α β : Type} {F : (Tok → α → Prop) → Prop} {G : Tok → α → (Tok → β → Prop) → Prop} (h : Once F) (g : ∀ u, Once (G .go u)) : Once fun K => F fun t u => G t u K := fun K hk =>
  let ⟨u, h1, h2⟩ := h _ hk
  let ⟨v, g1, g2⟩ := g u K h1
  ⟨v, g1, fun K' hk' => h2 _ (g2 K' hk')⟩
theorem once_onV (o : Option V) : Once (onV o) := by cases o; exact .no; exact .go _
theorem once_onRow {α : Type} (o : Option α) : Once (onRow o) := by cases o; exact .no; exact .go _
theorem once_onBox (o : Option Obj) : Once (onBox o) := by
  intro K h; obtain ⟨cs, rfl, h⟩ := onBox_some h; exact ⟨cs, h, fun _ h => h⟩
theorem once_onSlc {β : Type} (o : Option Obj) (G : Tok → Nat → List (List V) → (Tok → β → Prop) → Prop) (g : ∀ sz rows, Once (G .go sz rows)) : Once fun K => onSlc o fun t sz rows => G t sz rows K := by
  intro K h; obtain ⟨sz, rows, rfl, h⟩ := onSlc_some h
  obtain ⟨v, g1, g2⟩ := g sz rows K h
  exact ⟨v, g1, fun K' hk' => g2 K' hk'⟩
theorem once_ldV (n : Option Nat) (cs : List V) : Once (ldV n cs) := by
  cases n with
  | none => cases cs with
    | nil => exact .no
    | cons c cs => exact (Once.go c).and
  | some n => exact (Once.go _).and
theorem once_ldT (n : Option Nat) (cs : List T) : Once (ldT n cs) := by
  cases n with
  | none => cases cs with
    | nil => exact .no
    | cons c cs => exact Once.go _
  | some n => exact (Once.go _).and
theorem once_load (n : Option Nat) (σ : Store) (a : V) : Once (evLoad n σ a) := by
  intro K h
  unfold evLoad at h
  split at h
  · exact once_ldT n _ K h
  · rename_i id off
    obtain ⟨cs, ho, hk⟩ := onBox_some h
    obtain ⟨u, h1, h2⟩ := once_ldV n _ _ hk
    exact ⟨u, h1, fun K' hk' => by simp only [evLoad, ho, onBox]; exact h2 _ hk'⟩
  · rename_i id g i j
    obtain ⟨sz, rows, ho, hg, hk⟩ := onSlc_some h
    obtain ⟨r, hr, hk⟩ := onRow_some hk
    obtain ⟨u, h1, h2⟩ := once_ldV n _ _ hk
    exact ⟨u, h1, fun K' hk' => by simp only [evLoad, ho, onSlc, hr, onRow]; exact ⟨hg, h2 _ hk'⟩⟩
  · exact h.elim
theorem once_index (n : Nat) (σ : Store) (a i : V) : Once (evIndexAddr n σ a i) := by
  intro K h
  unfold evIndexAddr at h
  split at h
  · obtain ⟨h1, h2, h3⟩ := h
    obtain ⟨r, hr, hk⟩ := onRow_some h3
    exact ⟨_, hk, fun K' hk' => by simp only [evIndexAddr, hr, onRow]; exact ⟨h1, h2, hk'⟩⟩
  · obtain ⟨sz, rows, ho, h1, h2, h3, h4, hk⟩ := onSlc_some h
    exact ⟨_, hk, fun K' hk' => by simp only [evIndexAddr, ho, onSlc]; exact ⟨h1, h2, h3, h4, hk'⟩⟩
  · exact h.elim
theorem once_bin (op : BinOp) (a b : V) : Once (evBin op a b) := by
  cases a <;> try exact .no
  rename_i y; cases y <;> try exact .no
  · cases b <;> try exact .no
    rename_i y; cases y <;> try exact .no
    intro K h
    simp only [evBin] at h
    simp only [evBin]
    split
    · rename_i hs
      rw [if_pos hs] at h
      cases op <;> first | exact h.elim | exact ⟨_, h.2, fun K' hk' => ⟨h.1, hk'⟩⟩ | (simp [isSh] at hs; done)
    · rename_i hs
      rw [if_neg hs] at h
      cases op <;> first | exact ⟨_, h.2, fun K' hk' => ⟨h.1, hk'⟩⟩ | exact ⟨_, h.2.2, fun K' hk' => ⟨h.1, h.2.1, hk'⟩⟩ | exact h.2.elim
  · cases b <;> try exact .no
    rename_i y; cases y <;> try exact .no
    intro K h
    cases op <;> first | exact ⟨_, h.2, fun K' hk' => ⟨h.1, hk'⟩⟩ | exact ⟨_, h, fun K' hk' => hk'⟩ | exact h.elim
theorem once_nil (f : V → Option Bool) (neg : Bool) (a b : V) : Once (evNil f neg a b) := by
  intro K h
  unfold evNil at *
  generalize f a = p at h ⊢
  generalize f b = q at h ⊢
  cases p with
  | none => exact h.elim
  | some p => cases q with
    | none => cases p <;> exact h.elim
    | some q => cases p <;> cases q <;> first | exact ⟨_, h, fun _ h => h⟩ | exact h.elim
theorem once_bnd (e : Env) (o : Option O) (n : Nat) : Once (bnd e o n) := by
  cases o with
  | none => exact .go _
  | some o =>
    intro K h
    simp only [bnd] at h ⊢
    generalize opv e o = q at h ⊢
    unfold bndV at h
    split at h
    · exact ⟨_, h.2, fun _ hk => ⟨h.1, hk⟩⟩
    · exact h.elim
theorem once_slice {β : Type} (e : Env) (n : Nat) (lo hi : Option O) (G : Nat → Nat → β) : Once fun K : Tok → β → Prop => evSlice e n lo hi fun t l h => K t (G l h) := by
  intro K h
  unfold evSlice at h
  obtain ⟨m, ⟨h1, h2⟩, h3⟩ := once_bnd e hi n _ h
  obtain ⟨l, ⟨g1, g2⟩, g3⟩ := once_bnd e lo 0 _ h2
  exact ⟨_, g2, fun K' hk' => h3 _ ⟨h1, g3 _ ⟨g1, hk'⟩⟩⟩
theorem once_fill (e : Env) : ∀ (ps : List (Nat × Nat × O)) (cs : List V), Once (fillV e .go cs ps)
  | [], _ => .go _
  | (_, _, _) :: ps, cs => (once_onV _).via (G := fun t u K => onRow (cellsOf u) fun _ us => us.length = _ ∧ _ + _ ≤ cs.length ∧ fillV e t (putAt cs _ us) ps K) fun u =>
      (once_onRow _).via (G := fun _ us K => us.length = _ ∧ _ + _ ≤ cs.length ∧ fillV e .go (putAt cs _ us) ps K) fun us => (once_fill e ps _).and.and
theorem once_litRows (e : Env) (sz : Nat) : ∀ (ps : List (Nat × O)) (rs : List (List V)), Once (litRows e sz .go rs ps)
  | [], _ => .go _
  | (_, _) :: ps, rs => (once_onV _).via (G := fun t u K => onRow (cellsOf u) fun _ us => us.length = sz ∧ us.all one = true ∧ _ < rs.length ∧ litRows e sz t (rs.set _ us) ps K) fun u =>
      (once_onRow _).via (G := fun _ us K => us.length = sz ∧ us.all one = true ∧ _ < rs.length ∧ litRows e sz .go (rs.set _ us) ps K) fun us => (once_litRows e sz ps _).and.and.and

theorem once_cond (o : Option V) (p q : Option V) : Once fun K : Tok → V → Prop => condV o (fun t => onV p fun _ u => K t u) (fun t => onV q fun _ u => K t u) := by
  intro K h
  obtain ⟨v, rfl, h1, h2⟩ := condV_some h
  cases v with
  | true =>
    obtain ⟨u, hu, hk⟩ := onV_some (h1 rfl)
    exact ⟨u, hk, fun K' hk' => ⟨fun _ => (by simp only [hu, onV]; exact hk'), fun h => (by cases h)⟩⟩
  | false =>
    obtain ⟨u, hu, hk⟩ := onV_some (h2 rfl)
    exact ⟨u, hk, fun K' hk' => ⟨fun h => (by cases h), fun _ => (by simp only [hu, onV]; exact hk')⟩⟩

/-- A light instruction gives one value. -/
def eqK (σ : Store) (u : V) : Tok → Option V → Store → Prop := fun _ r σ' => r = some u ∧ σ' = σ

theorem via1 {o : Option V} {F : V → (Tok → V → Prop) → Prop} (h : ∀ a, Once (F a)) : Once fun K : Tok → V → Prop => onV o fun t a => F a fun _ u => K t u := by
  intro K hk
  obtain ⟨a, rfl, hk⟩ := onV_some hk
  obtain ⟨u, h1, h2⟩ := h a _ hk
  exact ⟨u, h1, fun K' hk' => h2 _ hk'⟩
theorem via2 {o o' : Option V} {F : V → V → (Tok → V → Prop) → Prop} (h : ∀ a b, Once (F a b)) : Once fun K : Tok → V → Prop => onV o fun t a => onV o' fun _ b => F a b fun _ u => K t u := by
  intro K hk
  obtain ⟨a, ha, hk1⟩ := onV_some hk
  obtain ⟨b, hb, hk2⟩ := onV_some hk1
  obtain ⟨u, h1, h2⟩ := h a b _ hk2
  exact ⟨u, h1, fun K' hk' => (by simp only [ha, hb, onV]; exact h2 _ hk')⟩
theorem once_sliceSl (e : Env) (n : Nat) (lo hi : Option O) (σ : Store) (a : V) : Once fun K : Tok → V → Prop => evSliceSl e n lo hi σ a fun t u => K t u := by
  cases a with
  | t p =>
    cases p with
    | lst _ _ => exact (once_slice e _ lo hi _).and
    | _ => exact .no
  | nils => exact once_slice e _ lo hi _
  | sl id g off len => exact once_onSlc _ (fun _ sz rows (K : Tok → V → Prop) => sz = n ∧ g = rows.length ∧ evSlice e len lo hi fun t l h => K t (V.sl id g (off + l) (h - l))) fun sz rows => (once_slice e _ lo hi _).and.and
  | _ => exact .no
theorem of_once {F : (Tok → V → Prop) → Prop} (h : Once F) {σ : Store} {K : Tok → Option V → Store → Prop} (hk : F fun t u => K t (some u) σ) : ∃ u, K .go (some u) σ ∧ F fun t u' => eqK σ u t (some u') σ := by
  obtain ⟨u, h1, h2⟩ := h _ hk
  exact ⟨u, h1, h2 _ ⟨rfl, rfl⟩⟩

theorem light_once {e : Env} {σ : Store} {i : I} {r : Bool} (hl : light i = some r) {K : Tok → Option V → Store → Prop} (hk : ev e σ K i) : ∃ u, K .go (some u) σ ∧ ev e σ (eqK σ u) i := by
  cases i with
  | new _ | box _ | store _ _ _ | mkSl _ _ _ _ _ | append _ _ _ _ | strBytes _ | call _ _ | mkMap | mapUp _ _ _ _ | mapEnt _ _ _ _ | entSt _ _ _ | copy _ _ _ => cases hl
  | mv x => exact of_once (F := fun K => onV (opv e x) fun t u => K t u) (once_onV _) hk
  | pick c a b => exact of_once (F := fun K => condV (opv e c) (fun t => onV (opv e a) fun _ u => K t u) (fun t => onV (opv e b) fun _ u => K t u)) (once_cond _ _ _) hk
  | load n a => exact of_once (F := fun K => onV (opv e a) fun t a => evLoad n σ a fun _ u => K t u) (via1 fun a => once_load n σ a) hk
  | nilCheck x => exact of_once (F := fun K => onV (opv e x) fun t a => nilChk a fun _ u => K t u) (via1 fun a => by cases a <;> first | exact .go _ | exact .no) hk
  | bin op x y => exact of_once (F := fun K => onV (opv e x) fun t a => onV (opv e y) fun _ b => evBin op a b fun _ u => K t u) (via2 fun a b => once_bin op a b) hk
  | eqB neg x y => exact of_once (F := fun K => onV (opv e x) fun t a => onV (opv e y) fun _ b => evEqB neg a b fun _ u => K t u) (via2 fun a b => by
      cases a <;> try exact .no
      rename_i p; cases p <;> try exact .no
      cases b <;> try exact .no
      rename_i p; cases p <;> first | exact .no | exact .go _) hk
  | eqP neg x y => exact of_once (F := fun K => onV (opv e x) fun t a => onV (opv e y) fun _ b => evNil isNilP neg a b fun _ u => K t u) (via2 fun a b => once_nil _ neg a b) hk
  | eqS neg x y => exact of_once (F := fun K => onV (opv e x) fun t a => onV (opv e y) fun _ b => evNil isNilS neg a b fun _ u => K t u) (via2 fun a b => once_nil _ neg a b) hk
  | un op x => exact of_once (F := fun K => onV (opv e x) fun t a => evUn op a fun _ u => K t u) (via1 fun a => by
      cases op <;> cases a <;> try exact .no
      all_goals (rename_i p; cases p <;> first | exact .no | exact .go _)) hk
  | convInt k x => exact of_once (F := fun K => onV (opv e x) fun t a => evConv k a fun _ u => K t u) (via1 fun a => by
      cases a <;> try exact .no
      rename_i p; cases p <;> first | exact .no | exact .go _) hk
  | sliceStr x lo hi => exact of_once (F := fun K => onV (opv e x) fun t a => evSliceStr e lo hi a fun _ u => K t u) (via1 fun a => by
      cases a <;> try exact .no
      rename_i p; cases p <;> try exact .no
      exact once_slice e _ lo hi _) hk
  | sliceSl n x lo hi => exact of_once (F := fun K => onV (opv e x) fun t a => evSliceSl e n lo hi σ a fun _ u => K t u) (via1 fun a => once_sliceSl e n lo hi σ a) hk
  | fieldAddr off x => exact of_once (F := fun K => onV (opv e x) fun t a => evFieldAddr off a fun _ u => K t u) (via1 fun a => by cases a <;> first | exact .go _ | exact .no) hk
  | field off n x => exact of_once (F := fun K => onV (opv e x) fun t a => evField off n a fun _ u => K t u) (via1 fun a => by cases a <;> first | exact .no | exact once_ldV n _) hk
  | indexAddr n x i => exact of_once (F := fun K => onV (opv e x) fun t a => onV (opv e i) fun _ b => evIndexAddr n σ a b fun _ u => K t u) (via2 fun a b => once_index n σ a b) hk
  | index x i => exact of_once (F := fun K => onV (opv e x) fun t a => onV (opv e i) fun _ b => evIndex a b fun _ u => K t u) (via2 fun a b => by
      cases a <;> try exact .no
      rename_i p; cases p <;> try exact .no
      cases b <;> try exact .no
      rename_i p; cases p <;> try exact .no
      intro K h
      obtain ⟨h1, h⟩ := h
      obtain ⟨b, hb, hk⟩ := onRow_some h
      exact ⟨_, hk, fun K' hk' => ⟨h1, by simp only [hb, onRow]; exact hk'⟩⟩) hk
  | extract x k => exact of_once (F := fun K => onV (opv e x) fun t a => evExtract k a fun _ u => K t u) (via1 fun a => by cases a <;> first | exact .no | exact once_onV _) hk
  | len s x =>
    obtain ⟨a, ha, hk⟩ := onV_some hk
    obtain ⟨n, hn, hk⟩ := onRow_some hk
    exact ⟨_, hk, by simp only [ev, ha, onV, hn, onRow]; exact ⟨rfl, rfl⟩⟩
  | lit how sz n z ps =>
    cases how with
    | none => cases hl
    | some b =>
      cases b with
      | true => cases hl
      | false =>
        simp only [ev] at hk
        obtain ⟨rs, h1, h2⟩ := once_litRows e sz ps _ _ hk
        exact ⟨_, h1, h2 _ ⟨rfl, rfl⟩⟩
  | build z ps =>
    simp only [ev] at hk
    obtain ⟨cs, h1, h2⟩ := once_fill e ps _ _ hk
    exact ⟨_, h1, h2 _ ⟨rfl, rfl⟩⟩
  | convStr x => exact of_once (F := fun K => onV (opv e x) fun t a => evConvStr a fun _ u => K t u) (via1 fun a => by
      cases a <;> try exact .no
      rename_i p; cases p <;> first | exact .no | exact .go _) hk
  | bytesStr x =>
    obtain ⟨a, ha, hk⟩ := onV_some hk
    obtain ⟨rs, hn, hk⟩ := onRow_some hk
    obtain ⟨s, hs, hk⟩ := onRow_some hk
    exact ⟨_, hk, by simp only [ev, ha, onV, hn, onRow, hs]; exact ⟨rfl, rfl⟩⟩
  | look kd ok z m k => exact of_once (F := fun K => onV (opv e m) fun t a => onV (opv e k) fun _ b => evLook kd ok z σ a b fun _ u => K t u) (via2 fun a b => by
      cases a <;> try exact .no
      intro K h
      obtain ⟨c, es, h1, h2, h3, h4⟩ := onMap_some h
      exact ⟨_, h4, fun K' hk' => by simp only [evLook, h1, onMap]; exact ⟨h2, h3, hk'⟩⟩) hk
  | lenM x => exact of_once (F := fun K => onV (opv e x) fun t a => evLenM σ a fun _ u => K t u) (via1 fun a => by
      cases a <;> try exact .no
      intro K h
      obtain ⟨c, es, h1, h4⟩ := onMap_some h
      exact ⟨_, h4, fun K' hk' => by simp only [evLenM, h1, onMap]; exact hk'⟩) hk
  | eqA neg ks x y => exact of_once (F := fun K => onV (opv e x) fun t a => onV (opv e y) fun _ b => evEqA neg ks a b fun _ u => K t u) (via2 fun a b => by
      cases a <;> try exact .no
      cases b <;> try exact .no
      exact (Once.go _).and.and) hk
  | iface ty x => exact of_once (F := fun K => onV (opv e x) fun t u => K t (.iface ty u)) (via1 fun a => .go _) hk
  | fn f caps =>
    obtain ⟨us, ha, hk⟩ := onVs_some hk
    exact ⟨_, hk, by simp only [ev, ha, onVs]; exact ⟨rfl, rfl⟩⟩
  | mm mx x y => exact of_once (F := fun K => onV (opv e x) fun t a => onV (opv e y) fun _ b => evMM mx a b fun _ u => K t u) (via2 fun a b => by
      cases a <;> try exact .no
      rename_i p; cases p <;> try exact .no
      cases b <;> try exact .no
      rename_i p; cases p <;> first | exact .no | exact .go _) hk

/-! ### what more objects do not turn -/
def preσ (σ σ' : Store) : Prop := ∃ τ, σ' = σ ++ τ
theorem preσ.get {σ σ' : Store} (h : preσ σ σ') {id : Nat} {o : Obj} (ho : σ[id]? = some o) : σ'[id]? = some o := by
  obtain ⟨τ, rfl⟩ := h
  rw [List.getElem?_append_left (List.getElem?_eq_some_iff.1 ho).1]; exact ho
theorem load_pre {σ σ' : Store} (h : preσ σ σ') {n : Option Nat} {a : V} {K : Tok → V → Prop} (hk : evLoad n σ a K) : evLoad n σ' a K := by
  unfold evLoad at hk
  split at hk
  · exact hk
  · obtain ⟨cs, ho, hk⟩ := onBox_some hk
    simp only [evLoad, h.get ho, onBox]; exact hk
  · obtain ⟨sz, rows, ho, hk⟩ := onSlc_some hk
    simp only [evLoad, h.get ho, onSlc]; exact hk
  · exact hk.elim
theorem index_pre {σ σ' : Store} (h : preσ σ σ') {n : Nat} {a b : V} {K : Tok → V → Prop} (hk : evIndexAddr n σ a b K) : evIndexAddr n σ' a b K := by
  unfold evIndexAddr at hk
  split at hk
  · exact hk
  · obtain ⟨sz, rows, ho, hk⟩ := onSlc_some hk
    simp only [evIndexAddr, h.get ho, onSlc]; exact hk
  · exact hk.elim
theorem rows_pre {σ σ' : Store} (h : preσ σ σ') {sz : Nat} {a : V} {rs : List (List V)} (hk : rowsOf σ sz a = some rs) : rowsOf σ' sz a = some rs := by
  unfold rowsOf at hk
  split at hk
  · exact hk
  · exact hk
  · exact hk
  · split at hk
    · rename_i ho
      simp only [rowsOf, h.get ho]; exact hk
    · cases hk
  · cases hk
theorem slice_pre {e : Env} {σ σ' : Store} (h : preσ σ σ') {n : Nat} {lo hi : Option O} {a : V} {K : Tok → V → Prop} (hk : evSliceSl e n lo hi σ a K) : evSliceSl e n lo hi σ' a K := by
  cases a with
  | t p => cases p <;> exact hk
  | nils => exact hk
  | sl id g off len =>
    obtain ⟨sz, rows, ho, hk⟩ := onSlc_some hk
    simp only [evSliceSl, h.get ho, onSlc]; exact hk
  | _ => exact hk.elim
theorem look_pre {σ σ' : Store} (h : preσ σ σ') {kd : KD} {ok : Bool} {z : V} {a b : V} {K : Tok → V → Prop} (hk : evLook kd ok z σ a b K) : evLook kd ok z σ' a b K := by
  cases a with
  | map id =>
    obtain ⟨c, es, ho, hk⟩ := onMap_some hk
    simp only [evLook, h.get ho, onMap]; exact hk
  | _ => exact hk.elim
theorem lenM_pre {σ σ' : Store} (h : preσ σ σ') {a : V} {K : Tok → V → Prop} (hk : evLenM σ a K) : evLenM σ' a K := by
  cases a with
  | map id =>
    obtain ⟨c, es, ho, hk⟩ := onMap_some hk
    simp only [evLenM, h.get ho, onMap]; exact hk
  | _ => exact hk.elim
theorem onV_mono {o : Option V} {K K' : Tok → V → Prop} (h : ∀ u, K .go u → K' .go u) (hk : onV o K) : onV o K' := by
  obtain ⟨u, rfl, hk⟩ := onV_some hk; exact h u hk

theorem light_pre {e : Env} {σ σ' : Store} {i : I} {r : Bool} {u : V} (hl : light i = some r) (h : r = true → preσ σ σ') (hk : ev e σ (eqK σ u) i) : ev e σ' (eqK σ' u) i := by
  cases i with
  | new _ | box _ | store _ _ _ | mkSl _ _ _ _ _ | append _ _ _ _ | strBytes _ | call _ _ | mkMap | mapUp _ _ _ _ | mapEnt _ _ _ _ | entSt _ _ _ | copy _ _ _ => cases hl
  | load n a =>
    obtain rfl := Option.some.inj hl
    simp only [ev, eqK, and_true] at hk ⊢
    exact onV_mono (fun _ hk => load_pre (h rfl) hk) hk
  | indexAddr n a b =>
    obtain rfl := Option.some.inj hl
    simp only [ev, eqK, and_true] at hk ⊢
    exact onV_mono (fun _ hk => onV_mono (fun _ hk => index_pre (h rfl) hk) hk) hk
  | sliceSl n x lo hi =>
    obtain rfl := Option.some.inj hl
    simp only [ev, eqK, and_true] at hk ⊢
    exact onV_mono (fun _ hk => slice_pre (h rfl) hk) hk
  | lenM x =>
    obtain rfl := Option.some.inj hl
    simp only [ev, eqK, and_true] at hk ⊢
    exact onV_mono (fun _ hk => lenM_pre (h rfl) hk) hk
  | look kd ok z a b =>
    obtain rfl := Option.some.inj hl
    simp only [ev, eqK, and_true] at hk ⊢
    exact onV_mono (fun _ hk => onV_mono (fun _ hk => look_pre (h rfl) hk) hk) hk
  | bytesStr x =>
    obtain rfl := Option.some.inj hl
    simp only [ev, eqK, and_true] at hk ⊢
    refine onV_mono (fun _ hk => ?_) hk
    obtain ⟨rs, hr, hk⟩ := onRow_some hk
    simp only [rows_pre (h rfl) hr, onRow]; exact hk
  | lit how sz n z ps =>
    cases how with
    | none => cases hl
    | some b =>
      cases b with
      | true => cases hl
      | false => simpa only [ev, eqK, litHow, litK, and_true] using hk
  | _ => simpa only [ev, eqK, and_true] using hk

theorem ev_mono {e : Env} {σ : Store} {i : I} {r : Bool} {u : V} (hl : light i = some r) (hk : ev e σ (eqK σ u) i) {K : Tok → Option V → Store → Prop} (h : K .go (some u) σ) : ∃ u', u' = u ∧ ev e σ (eqK σ u') i ∧ K .go (some u') σ := ⟨u, rfl, hk, h⟩

def I.fix : I → I
  | .lit none a b c d => .lit (some false) a b c d
  | i => i
theorem ev_fix {e : Env} {σ : Store} {K : Tok → Option V → Store → Prop} {i : I} (h : ev e σ K i.fix) : ev e σ K i := by
  cases i with
  | lit how sz n z ps =>
    cases how with
    | some b => exact h
    | none =>
      simp only [I.fix, ev, litHow] at h ⊢
      obtain ⟨rs, h1, h2⟩ := once_litRows e sz ps _ _ h
      exact h2 _ ⟨false, h1⟩
  | _ => exact h
end Go.Ab
