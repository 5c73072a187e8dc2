/- Regions whose order is drawn: one walk, the light instructions first, serves every order. Conditions: none (a library of lemmas). -/
import Derived.Test.YtleilaipdhmgeaaAbGa
import Derived.Orders
set_option linter.unusedSimpArgs false
set_option linter.unusedVariables false
set_option linter.defProp false
namespace Go.Ab

def keepE : List Nat → Env → Env
  | [], _ => []
  | k :: ks, e => match eget e k with
    | some u => (k, u) :: keepE ks e
    | none => keepE ks e

structure Ent where
  j : Nat
  b : Bool
  c : In

def preds (ops : Array Oper) (j : Nat) : List Nat :=
  match ops[j]? with
  | some o => (o.after.toList.filter (Region.binds .any)).map (·.on)
  | none => []
def ancS (ops : Array Oper) : Nat → List Nat → List Nat
  | 0, s => s
  | f + 1, s => match ((s.flatMap (preds ops)).filter fun k => !s.contains k).eraseDups with
    | [] => s
    | k :: ks => ancS ops f (s ++ k :: ks)

def drK (b : Bool) (σ : Store) (K : St → Prop) (s : St) : Prop := (b = true → preσ σ s.σ) ∧ K s
def vcDr (P : Program) : List Ent → (St → Prop) → St → Prop
  | [], K, s => K s
  | y :: is, K, s => wantK y.c.g s.e (bothK y.c.dst s.e s.σ (runIn P y.c (drK y.b s.σ (vcDr P is K))) (vcDr P is K))

/-- Whether it may be walked ahead; b on a light one makes it wait for its place. -/
def lightE (y : Ent) : Option Bool := if y.b = true then none else light y.c.i
theorem lightE_some {y : Ent} {r : Bool} (h : lightE y = some r) : light y.c.i = some r := by
  unfold lightE at h
  split at h
  · cases h
  · exact h
structure EntOk (ops : Array Oper) (all done : List Ent) (x : Ent) (rest : List Ent) : Prop where
  pre : ∀ p ∈ preds ops x.j, ∃ m ∈ done, m.j = p
  look : ∀ m ∈ all, ∀ d, m.c.dst = some d → d ∈ x.c.looks → (m.j ∈ preds ops x.j ∧ m.j ≠ x.j) ∨ (lightE m = none ∧ x.j ∈ preds ops m.j)
  dst : ∀ m ∈ rest, ∀ d, m.c.dst = some d → x.c.dst ≠ some d
  heavy : lightE x = none → (∀ q ∈ rest, ∃ p ∈ preds ops q.j, p = x.j ∨ ∃ m ∈ rest, m.j = p) ∧ (x.b = false → ∀ q ∈ done, light q.c.i = some true → q.j ∈ ancS ops ops.size (preds ops x.j))

structure AllOk (P : Program) (ops : Array Oper) (n : Nat) (all : List Ent) : Prop where
  nodup : (all.map (·.j)).Nodup
  whole : ∀ k, k < ops.size → ∃ m ∈ all, m.j = k
  ins : ∀ m ∈ all, ∃ o c, ops[m.j]? = some o ∧ cIn P ops n o = some c ∧ m.c = ⟨c.dst, c.g, c.i.fix⟩
  ents : ∀ A x B, all = A ++ x :: B → EntOk ops all A x B

def gOk : Option (Nat × Bool) → Env → Option Bool
  | none, _ => some true
  | some (s, b), e => match eget e s with
    | some (.t (.bool v)) => some (v == b)
    | some (.tup []) => some false
    | _ => none

structure Pd where
  x : Ent
  e : Env
  u : V
def PendOk (σ : Store) (p : Pd) : Prop :=
  (gOk p.x.c.g p.e = some true ∧ ev p.e σ (eqK σ p.u) p.x.c.i) ∨ (gOk p.x.c.g p.e = some false ∧ p.u = .tup [])

structure Inv (P : Program) (ops : Array Oper) (n : Nat) (K : St → Prop) (x0 : Cx) (all A L : List Ent) (pend : List Pd) (listed : Array Bool) (x : Cx) (e : Env) (a : Act) : Prop where
  split : all = A ++ L
  size : listed.size = ops.size
  un : ∀ j, listed.getD j true = false ↔ (∃ m ∈ L, m.j = j) ∨ ∃ p ∈ pend, p.x.j = j
  closed : ∀ j, listed.getD j false = true → ∀ p ∈ preds ops j, listed.getD p false = true
  pnd : ∀ p ∈ pend, p.x ∈ A ∧ (∃ r, lightE p.x = some r) ∧ PendOk x.σ p ∧ (∀ k ∈ p.x.c.looks, eget p.e k = eget e k) ∧ (∀ d, p.x.c.dst = some d → eget e d = some p.u) ∧
    (∀ m ∈ L, ∀ d, m.c.dst = some d → d ∈ p.x.c.looks → lightE m = none ∧ p.x.j ∈ preds ops m.j) ∧ (∀ m ∈ L, ∀ d, m.c.dst = some d → p.x.c.dst ≠ some d)
  pdup : (pend.map (·.x.j)).Nodup
  env : ∀ k u, eget e k = some u → (∃ p ∈ pend, p.x.c.dst = some k) ∨ ∃ v, a.tmps[k]? = some v ∧ VRel x u v
  ext : Ext x0 x
  wrel : WRel x
  tn : a.tmps.size = n
  df : a.defers = []
  vc : vcDr P L K ⟨.go, e, x.σ⟩

section
variable {P : Program} {ops : Array Oper} {n : Nat} {K : St → Prop} {x0 : Cx} {all A L : List Ent} {pend : List Pd} {listed : Array Bool} {x : Cx} {e : Env} {a : Act}

theorem eget_setD {e : Env} {d : Option Nat} {u : V} {k : Nat} (h : d ≠ some k) : eget (setD e d u) k = eget e k := by
  cases d with
  | none => rfl
  | some d =>
    simp only [setD, eget]
    rw [if_neg (fun hk => h (by rw [hk]))]
theorem eget_setD_same {e : Env} {u : V} {k : Nat} : eget (setD e (some k) u) k = some u := by simp [setD, eget]

theorem wantK_gOk {g : Option (Nat × Bool)} {e : Env} {K : Tok → Bool → Prop} (h : wantK g e K) : ∃ w, gOk g e = some w ∧ K .go w := by
  cases g with
  | none => exact ⟨true, rfl, h⟩
  | some g =>
    obtain ⟨s, b⟩ := g
    simp only [wantK] at h
    rcases wantV_some h with ⟨v, hv, h1, h2⟩ | ⟨hv, h1⟩
    · refine ⟨v == b, by simp [gOk, hv], ?_⟩
      cases v <;> cases b
      · exact h2 rfl
      · exact h2 rfl
      · exact h1 rfl
      · exact h1 rfl
    · exact ⟨false, by simp [gOk, hv], h1⟩

theorem light_not_call {i : I} {r : Bool} (h : light i = some r) : ∀ f as, i ≠ .call f as := by
  intro f as hi; subst hi; cases h
theorem j_inj (h : AllOk P ops n all) {m m' : Ent} (h1 : m ∈ all) (h2 : m' ∈ all) (hj : m.j = m'.j) : m = m' := by
  have hn := h.nodup
  clear h
  induction all with
  | nil => cases h1
  | cons y ys ih =>
    simp only [List.map_cons, List.nodup_cons, List.mem_map, not_exists, not_and] at hn
    simp only [List.mem_cons] at h1 h2
    rcases h1 with rfl | h1 <;> rcases h2 with rfl | h2
    · rfl
    · exact (hn.1 m' h2 hj.symm).elim
    · exact (hn.1 m h1 hj).elim
    · exact ih h1 h2 hn.2

theorem ne_j (h : AllOk P ops n all) (hs : all = A ++ L) {m m' : Ent} (h1 : m ∈ A) (h2 : m' ∈ L) : m.j ≠ m'.j := by
  have hn := h.nodup
  rw [hs, List.map_append, List.nodup_append] at hn
  exact hn.2.2 _ (List.mem_map.2 ⟨m, h1, rfl⟩) _ (List.mem_map.2 ⟨m', h2, rfl⟩)

theorem pop {y : Ent} (hok : AllOk P ops n all) (h : Inv P ops n K x0 all A (y :: L) pend listed x e a) {r : Bool} (hlE : lightE y = some r) :
    ∃ u e', Inv P ops n K x0 all (A ++ [y]) L (⟨y, e, u⟩ :: pend) listed x e' a := by
  have hl := lightE_some hlE
  have hvc := h.vc
  simp only [vcDr] at hvc
  obtain ⟨w, hw, hk⟩ := wantK_gOk hvc
  have hent := hok.ents A y L h.split
  have hyall : y ∈ all := by rw [h.split]; simp
  have key : ∃ u, PendOk x.σ ⟨y, e, u⟩ ∧ vcDr P L K ⟨.go, setD e y.c.dst u, x.σ⟩ := by
    cases w with
    | true =>
      have hk' := runI_ev (light_not_call hl) (show runI P y.c.dst (drK y.b x.σ (vcDr P L K)) e x.σ y.c.i from hk)
      obtain ⟨u, h1, h2⟩ := light_once hl hk'
      exact ⟨u, .inl ⟨hw, h2⟩, h1.2⟩
    | false => exact ⟨.tup [], .inr ⟨hw, rfl⟩, hk⟩
  obtain ⟨u, hp, hv⟩ := key
  have hlook : ∀ d, y.c.dst = some d → d ∉ y.c.looks := fun d hd hm => (hent.look y hyall d hd hm).elim (fun h => h.2 rfl) (fun h => by rw [hlE] at h; cases h.1)
  refine ⟨u, setD e y.c.dst u, ?_⟩
  constructor
  · rw [h.split]; simp
  · exact h.size
  · intro j
    rw [h.un j]
    simp only [List.mem_cons, exists_eq_or_imp]
    constructor
    · rintro ((h1 | h1) | h1)
      · exact .inr (.inl h1)
      · exact .inl h1
      · exact .inr (.inr h1)
    · rintro (h1 | h1 | h1)
      · exact .inl (.inr h1)
      · exact .inl (.inl h1)
      · exact .inr h1
  · exact h.closed
  · intro p hpm
    simp only [List.mem_cons] at hpm
    rcases hpm with rfl | hpm
    · refine ⟨by simp, ⟨r, hlE⟩, hp, fun k hk => (eget_setD fun hd => hlook k hd hk).symm, fun d hd => ?_, fun m hm d hd hdl => ?_, fun m hm d hd => hent.dst m hm d hd⟩
      · simp only at hd
        rw [hd]
        exact eget_setD_same
      · have hmall : m ∈ all := by rw [h.split]; simp [hm]
        rcases hent.look m hmall d hd hdl with ⟨h1, _⟩ | h1
        · obtain ⟨m', hm', hj⟩ := hent.pre _ h1
          exact (ne_j hok h.split hm' (List.mem_cons_of_mem _ hm) hj).elim
        · exact h1
    · obtain ⟨h1, h2, h3, h4, h5, h6, h7⟩ := h.pnd p hpm
      refine ⟨by simp [h1], h2, h3, fun k hk => ?_, fun d hd => ?_, fun m hm => h6 m (List.mem_cons_of_mem _ hm), fun m hm => h7 m (List.mem_cons_of_mem _ hm)⟩
      · rw [h4 k hk]
        exact (eget_setD fun hd => by have := (h6 y (by simp) k hd hk).1; rw [hlE] at this; cases this).symm
      · rw [eget_setD fun hd' => h7 y (by simp) d hd' hd]
        exact h5 d hd
  · simp only [List.map_cons, List.nodup_cons, List.mem_map, not_exists, not_and]
    refine ⟨fun p hpm hj => ?_, h.pdup⟩
    exact ne_j hok h.split (h.pnd p hpm).1 (show y ∈ y :: L by simp) hj
  · intro k u' hk
    by_cases hd : y.c.dst = some k
    · exact .inl ⟨_, List.mem_cons_self, hd⟩
    · rw [eget_setD hd] at hk
      rcases h.env k u' hk with ⟨p, hp1, hp2⟩ | h1
      · exact .inl ⟨p, List.mem_cons_of_mem _ hp1, hp2⟩
      · exact .inr h1
  · exact h.ext
  · exact h.wrel
  · exact h.tn
  · exact h.df
  · exact hv

theorem exec_ev {ek : Env} {o : Oper} {i : I} (h1 : cI P o.op = some i) (hn : ∀ f as, i ≠ .call f as) (hx : WRel x) (he : ERel x ek a.tmps) {KK : Tok → Option V → Store → Prop} (hk : ev ek x.σ KK i) {G : Act → World → Prop} {Q : Exit → Act → World → Prop}
    (hG : ∀ y r v, Ext x y → WRel y → KK .go r y.σ → VRel y (r.getD (.tup [])) v → G (a.put o.dst v) y.w) : o.wp P a x.w G Q := by
  obtain ⟨nx, y, r, hrun, hkk, hnr, hy, hxy⟩ := cI_sound hx he h1 hn hk
  simp only [Oper.wp, hrun]
  cases nx <;> first | (simp only [NRel] at hnr; done) | skip
  case value v =>
    cases r with
    | none => simp [NRel] at hnr
    | some u =>
      simp only [Oper.upon]
      exact hG y _ v hxy hy hkk hnr
  case skip =>
    cases r with
    | some u => simp [NRel] at hnr
    | none =>
      simp only [Oper.upon]
      exact hG y none _ hxy hy hkk (rel_undef y)

theorem exec_call {ek : Env} {o : Oper} {f : O} {as : List O} (h1 : cI P o.op = some (.call f as)) (hx : WRel x) (he : ERel x ek a.tmps) {KK : Tok → V → Store → Prop} (hk : callO P ek x.σ f (opvs ek as) KK) {G : Act → World → Prop} {Q : Exit → Act → World → Prop}
    (hG : ∀ y r v, Ext x y → WRel y → KK .go r y.σ → VRel y r v → G (a.put o.dst v) y.w) : o.wp P a x.w G Q := by
  obtain ⟨g, cargs, hrun, hcalls⟩ := call_enter h1 hx he hk
  simp only [Oper.wp, hrun, Oper.upon]
  refine hcalls.mono ?_
  rintro ex w' ⟨v, y, r, rfl, rfl, hRr, hrv, hy, hxy⟩
  exact hG y r v hxy hy hRr hrv

/-- The model wants the operation just when the condition says so. -/
theorem wanted_of {ek : Env} {o : Oper} {c : In} (hc : cIn P ops n o = some c) (he : ERel x ek a.tmps) {w : Bool} (hg : gOk c.g ek = some w) : Region.wanted o (yielded ops a.tmps) = w := by
  obtain ⟨_, _, _, h4⟩ := cIn_some hc
  rcases h4 with ⟨hg0, hcg⟩ | ⟨j, b, s, hg0, hs, hcg⟩
  · rw [hcg] at hg
    simp only [gOk, Option.some.injEq] at hg
    simp [Region.wanted, hg0, ← hg]
  · rw [hcg] at hg
    simp only [gOk] at hg
    split at hg
    · rename_i v hv
      simp only [Option.some.injEq] at hg
      obtain ⟨c', hc', hr'⟩ := he s _ hv
      have hb := rel_bool hr'
      subst hb
      have hy : yielded ops a.tmps j = some v := by simp [yielded, hs, hc']
      simp only [Region.wanted, hg0, hy, ← hg]
      cases v <;> cases b <;> rfl
    · rename_i hv
      simp only [Option.some.injEq] at hg
      obtain ⟨c', hc', hr'⟩ := he s _ hv
      simp only [VRel] at hr'
      obtain ⟨l', rfl, hl'⟩ := hr'
      have hy : yielded ops a.tmps j = none := by simp [yielded, hs, hc']
      simp [Region.wanted, hg0, hy, ← hg]
    · cases hg

theorem eget_keep : ∀ {ks : List Nat} {e : Env} {k : Nat}, k ∈ ks → eget (keepE ks e) k = eget e k
  | [], _, _, h => by cases h
  | k' :: ks, e, k, h => by
    simp only [keepE]
    by_cases hk : k = k'
    · subst hk
      split
      · rename_i u hu; simp [eget, hu]
      · rename_i hu
        have : ∀ ks, eget (keepE ks e) k = none := by
          intro ks
          induction ks with
          | nil => rfl
          | cons k'' ks ih =>
            simp only [keepE]
            split
            · rename_i u hu'
              simp only [eget]
              split
              · rename_i heq; subst heq; rw [hu] at hu'; cases hu'
              · exact ih
            · exact ih
        rw [this, hu]
    · have hm : k ∈ ks := by simpa [hk] using h
      split
      · simp only [eget, if_neg hk]; exact eget_keep hm
      · exact eget_keep hm
theorem eget_keep_some : ∀ {ks : List Nat} {e : Env} {k : Nat} {u : V}, eget (keepE ks e) k = some u → k ∈ ks ∧ eget e k = some u
  | [], _, _, _, h => by simp [keepE, eget] at h
  | k' :: ks, e, k, u, h => by
    simp only [keepE] at h
    split at h
    · rename_i u' hu'
      simp only [eget] at h
      split at h
      · rename_i heq; subst heq; exact ⟨by simp, by rw [← h]; exact hu'⟩
      · obtain ⟨h1, h2⟩ := eget_keep_some h
        exact ⟨by simp [h1], h2⟩
    · obtain ⟨h1, h2⟩ := eget_keep_some h
      exact ⟨by simp [h1], h2⟩
end
end Go.Ab
