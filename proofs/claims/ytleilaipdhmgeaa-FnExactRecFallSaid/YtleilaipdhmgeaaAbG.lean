/- Regions, code and calls: the rules of our logic, and that they hold of the model's code. Conditions: none (a library of lemmas). -/
import Derived.Test.YtleilaipdhmgeaaAbF
set_option linter.unusedSimpArgs false
set_option linter.unusedVariables false
set_option linter.defProp false
namespace Go.Ab

structure In where
  dst : Option Nat
  g : Option (Nat × Bool)
  i : I

def dstOk (n : Nat) : Option Nat → Bool
  | none => true
  | some d => decide (d < n)
def cIn (P : Program) (ops : Array Oper) (n : Nat) (o : Oper) : Option In :=
  match cI P o.op with
  | none => none
  | some i =>
    if dstOk n o.dst = true then
      match o.guard with
      | none => some ⟨o.dst, none, i⟩
      | some (j, b) => match (ops[j]?).bind (·.dst) with
        | some s => some ⟨o.dst, some (s, b), i⟩
        | none => none
    else none
def cOps (P : Program) (ops : Array Oper) (n : Nat) : List Oper → Option (List In)
  | [] => some []
  | o :: os => match cIn P ops n o, cOps P ops n os with
    | some i, some is => some (i :: is)
    | _, _ => none

def Enters (P : Program) (f : FuncId) : Prop := ∃ fn, P.funcs[f]? = some fn ∧ (fn.name == "runtime.NumGoroutine") = false ∧ fn.body.isNone = false

/-- A contract: called at these values over this store, the function returns, and what it returns and leaves is as R says. -/
def ACalls (P : Program) (f : FuncId) (args : List V) (σ : Store) (R : V → Store → Prop) : Prop :=
  Enters P f ∧ ∀ (x : Cx) (cargs : List Value), x.σ = σ → WRel x → VsRel x args cargs →
    Calls P f cargs.toArray x.w fun e w' => ∃ v y r, e = .returned v ∧ y.w = w' ∧ R r y.σ ∧ VRel y r v ∧ WRel y ∧ Ext x y

theorem ACalls.mono {P : Program} {f : FuncId} {args : List V} {σ : Store} {R R' : V → Store → Prop} (h : ACalls P f args σ R) (hr : ∀ r σ', R r σ' → R' r σ') : ACalls P f args σ R' :=
  ⟨h.1, fun x cargs hσ hx ha => (h.2 x cargs hσ hx ha).mono fun _ _ ⟨v, y, r, h1, h2, h3, h4⟩ => ⟨v, y, r, h1, h2, hr _ _ h3, h4⟩⟩

structure St where
  t : Tok
  e : Env
  σ : Store

def setD (e : Env) (d : Option Nat) (u : V) : Env :=
  match d with
  | none => e
  | some k => (k, u) :: e

def wantV : Option V → Bool → (Tok → Bool → Prop) → Prop
  | some (.t (.bool v)), b, K => condP v (fun t => K t b) (fun t => K t (!b))
  | some (.tup []), _, K => K .go false
  | _, _, _ => False
def wantK : Option (Nat × Bool) → Env → (Tok → Bool → Prop) → Prop
  | none, _, K => K .go true
  | some (s, b), e, K => wantV (eget e s) b K

def callV (P : Program) (σ : Store) : Option V → Option (List V) → (Tok → V → Store → Prop) → Prop
  | some (.fn (.func f) caps), some us, K => ∃ R, ACalls P f (us ++ caps) σ R ∧ ∀ r σ', R r σ' → K .go r σ'
  | _, _, _ => False

/-- The function that a method's name means at a type: without embedded fields. -/
def methodOf (P : Program) (ty : Nat) (name : String) : Option FuncId :=
  match P.info? ty, P.underlying ty with
  | some i, some d => match i.methods.find? (·.name == name) with
    | some m => if m.path.isEmpty then match m.func with
        | some (f, pr) => match d, pr with
          | .pointer _, true => some f
          | .pointer _, false => none
          | _, false => some f
          | _, true => none
        | none => none
      else none
    | none => none
  | _, _ => none
def callM (P : Program) (σ : Store) (name : String) : Option V → Option (List V) → (Tok → V → Store → Prop) → Prop
  | some (.iface ty u), some us, K => onRow (methodOf P ty name) fun t g => ∃ R, ACalls P g (u :: us) σ R ∧ ∀ r σ', R r σ' → K t r σ'
  | _, _, _ => False

def callO (P : Program) (e : Env) (σ : Store) (f : O) (us : Option (List V)) (K : Tok → V → Store → Prop) : Prop :=
  match f with
  | .t k => callV P σ (eget e k) us K
  | .c v => callV P σ (some v) us K
  | .m k name => callM P σ name (eget e k) us K

def iK (e : Env) (d : Option Nat) (K : St → Prop) (t : Tok) (r : Option V) (σ' : Store) : Prop := K ⟨t, setD e d (r.getD (.tup [])), σ'⟩
def runI (P : Program) (d : Option Nat) (K : St → Prop) (e : Env) (σ : Store) : I → Prop
  | .call f as => callO P e σ f (opvs e as) fun t r σ' => K ⟨t, setD e d r, σ'⟩
  | j => ev e σ (iK e d K) j
def runIn (P : Program) (i : In) (K : St → Prop) (s : St) : Prop := runI P i.dst K s.e s.σ i.i
def bothK (d : Option Nat) (e : Env) (σ : Store) (A K : St → Prop) (t : Tok) : Bool → Prop
  | true => A ⟨t, e, σ⟩
  | false => K ⟨t, setD e d (.tup []), σ⟩

def vcOps (P : Program) : List In → (St → Prop) → St → Prop
  | [], K, s => K s
  | i :: is, K, s => wantK i.g s.e (bothK i.dst s.e s.σ (runIn P i (vcOps P is K)) (vcOps P is K))

section
variable {P : Program}

theorem ERel.mono {x y : Cx} {e : Env} {tmps : Array Value} (h : ERel x e tmps) (k : Ext x y) : ERel y e tmps := fun i u hu =>
  let ⟨v, hv, hr⟩ := h i u hu
  ⟨v, hv, VRel.mono k u v hr⟩

theorem ERel.put {x : Cx} {e : Env} {a : Act} {d : Option Nat} {u : V} {v : Value} (h : ERel x e a.tmps) (hv : VRel x u v) (hd : ∀ k, d = some k → k < a.tmps.size) : ERel x (setD e d u) (a.put d v).tmps := by
  cases d with
  | none => exact h
  | some k =>
    intro i u' hu
    have hk := hd k rfl
    simp only [setD, eget] at hu
    simp only [Act.put]
    split at hu
    · rename_i hik
      obtain rfl := Option.some.inj hu
      subst hik
      exact ⟨v, by simp [hk], hv⟩
    · rename_i hik
      obtain ⟨v', hv', hr'⟩ := h i u' hu
      exact ⟨v', by rw [Array.getElem?_setIfInBounds_ne (by omega)]; exact hv', hr'⟩

theorem put_size (a : Act) (d : Option Nat) (v : Value) : (a.put d v).tmps.size = a.tmps.size := by cases d <;> simp [Act.put]
theorem put_defers (a : Act) (d : Option Nat) (v : Value) : (a.put d v).defers = a.defers := by cases d <;> simp [Act.put]

/-- What stands behind a piece of code, told from a context x0 on. -/
def Post (x0 : Cx) (n : Nat) (K : St → Prop) (a : Act) (w : World) : Prop :=
  ∃ y e, K ⟨.go, e, y.σ⟩ ∧ ERel y e a.tmps ∧ WRel y ∧ Ext x0 y ∧ y.w = w ∧ a.tmps.size = n ∧ a.defers = []

theorem rel_undef (x : Cx) : VRel x (.tup []) undef := ⟨[], rfl, rfl⟩

theorem cIn_some {ops : Array Oper} {n : Nat} {o : Oper} {i : In} (h : cIn P ops n o = some i) : cI P o.op = some i.i ∧ o.dst = i.dst ∧ (∀ k, i.dst = some k → k < n) ∧
    ((o.guard = none ∧ i.g = none) ∨ ∃ j b s, o.guard = some (j, b) ∧ (ops[j]?).bind (·.dst) = some s ∧ i.g = some (s, b)) := by
  unfold cIn at h
  split at h
  · cases h
  · rename_i j hj
    split at h
    · rename_i hd
      have hd' : ∀ k, o.dst = some k → k < n := by
        intro k hk
        rw [hk] at hd
        simpa [dstOk] using hd
      split at h
      · rename_i hg
        obtain rfl := Option.some.inj h
        exact ⟨hj, rfl, hd', .inl ⟨hg, rfl⟩⟩
      · rename_i jj b hg
        split at h
        · rename_i s hs
          obtain rfl := Option.some.inj h
          exact ⟨hj, rfl, hd', .inr ⟨jj, b, s, hg, hs, rfl⟩⟩
        · cases h
    · cases h

theorem callFunc_enter {f : FuncId} (h : Enters P f) (args : Array Value) (w : World) : (callFunc f args).run P w = .ok (.enter f args) w := by
  obtain ⟨fn, hf, hn, hb⟩ := h
  have hn' : ¬ fn.name = "runtime.NumGoroutine" := by simpa using hn
  have hb' : ¬ fn.body = none := by cases h : fn.body <;> simp_all
  simp [callFunc, hf, hn', hb']

theorem cI_call {op : Op} {f : O} {as : List O} (h : cI P op = some (.call f as)) : ∃ cl, op = .call cl ∧ cOs cl.args.toList = some as ∧ ((∃ pf, cl.callee = .value pf ∧ cO pf = some f) ∨ ∃ k name, cl.callee = .invoke (.tmp k) name ∧ f = .m k name) := by
  cases op with
  | call cl =>
    simp only [cI] at h
    split at h
    · (repeat' split at h) <;> simp at h
    · (repeat' split at h) <;> simp at h
    · (repeat' split at h) <;> simp at h
    · (repeat' split at h) <;> simp at h
    · (repeat' split at h) <;> simp at h
    · rename_i k name hcal
      obtain ⟨as', h1, h2⟩ := map_some h
      simp only [I.call.injEq] at h2
      obtain ⟨rfl, rfl⟩ := h2
      exact ⟨cl, rfl, h1, .inr ⟨k, name, hcal, rfl⟩⟩
    · rename_i pf hcal
      split at h
      · rename_i f' as' hf' has'
        simp only [Option.some.injEq, I.call.injEq] at h
        obtain ⟨rfl, rfl⟩ := h
        exact ⟨cl, rfl, has', .inl ⟨pf, hcal, hf'⟩⟩
      · cases h
    · cases h
  | slice t p lo hi mx =>
    cases mx <;> simp only [cI] at h
    · (repeat' split at h) <;> simp_all
    · cases h
  | makeMap t r => cases r <;> simp [cI] at h
  | makeFunc f a b => cases f <;> simp [cI] at h
  | _ =>
    simp only [cI] at h
    first
      | (cases h; done)
      | (obtain ⟨_, _, h⟩ := map_some h; cases h; done)
      | ((repeat' split at h) <;> first | (cases h; done) | (obtain ⟨_, _, h⟩ := map_some h; cases h; done) | (simp_all; done))

theorem wantV_some {o : Option V} {b : Bool} {K : Tok → Bool → Prop} (h : wantV o b K) : (∃ v, o = some (.t (.bool v)) ∧ (v = true → K .go b) ∧ (v = false → K .go (!b))) ∨ (o = some (.tup []) ∧ K .go false) := by
  unfold wantV at h
  split at h
  · exact .inl ⟨_, rfl, h⟩
  · exact .inr ⟨rfl, h⟩
  · exact h.elim
theorem callV_some {σ : Store} {f : Option V} {us : Option (List V)} {K : Tok → V → Store → Prop} (h : callV P σ f us K) :
    ∃ g caps us', f = some (.fn (.func g) caps) ∧ us = some us' ∧ ∃ R, ACalls P g (us' ++ caps) σ R ∧ ∀ r σ', R r σ' → K .go r σ' := by
  unfold callV at h
  split at h
  · exact ⟨_, _, _, rfl, rfl, h⟩
  · exact h.elim
theorem methodOf_some {ty : Nat} {name : String} {f : FuncId} (h : methodOf P ty name = some f) : ∃ i d m pr, P.info? ty = some i ∧ P.underlying ty = some d ∧ i.methods.find? (·.name == name) = some m ∧ m.path = #[] ∧ m.func = some (f, pr) ∧
    ((∃ el, d = .pointer el ∧ pr = true) ∨ ((∀ el, d ≠ .pointer el) ∧ pr = false)) := by
  unfold methodOf at h
  split at h
  · rename_i i d hi hd
    split at h
    · rename_i m hm
      split at h
      · rename_i hp
        split at h
        · rename_i f' pr hf
          have hp' : m.path = #[] := by simpa using hp
          split at h
          · obtain rfl := Option.some.inj h
            exact ⟨i, _, m, _, hi, hd, hm, hp', hf, .inl ⟨_, rfl, rfl⟩⟩
          · cases h
          · rename_i hne _
            obtain rfl := Option.some.inj h
            exact ⟨i, _, m, _, hi, hd, hm, hp', hf, .inr ⟨fun el he => by subst he; first | exact hne _ rfl | simp_all, rfl⟩⟩
          · cases h
        · cases h
      · cases h
    · cases h
  · cases h
theorem method_run {ty : Nat} {name : String} {f : FuncId} (h : methodOf P ty name = some f) (n : Nat) (v : Value) (w : World) : (method (n + 1) ty v name).run P w = .ok (f, v) w := by
  obtain ⟨i, d, m, pr, hi, hd, hm, hp, hf, hk⟩ := methodOf_some h
  simp only [method, Sem.run_bind, run_typeInfo' hi, Result.andThen_ok, hm, hp, follow, Sem.run_pure, hf]
  rcases hk with ⟨el, rfl, rfl⟩ | ⟨hne, rfl⟩
  · simp [receiverAt, run_underlying hd, Place.get]
  · simp only [receiverAt, Sem.run_bind, run_underlying hd, Result.andThen_ok]
    cases d <;> first | (exact (hne _ rfl).elim) | simp [Place.get]
theorem behind_first {α : Type} (a : α) (l : Array α) : (#[a] ++ l).extract 1 (#[a] ++ l).size = l := by
  cases l with
  | mk l => simp
/-- A call enters a function that keeps its contract. -/
theorem call_enter {x : Cx} {ek : Env} {a : Act} {o : Oper} {f : O} {as : List O} (h1 : cI P o.op = some (.call f as)) (hx : WRel x) (he : ERel x ek a.tmps) {KK : Tok → V → Store → Prop} (hk : callO P ek x.σ f (opvs ek as) KK) :
    ∃ g cargs, (execOp a.eval o).run P x.w = .ok (.enter g cargs) x.w ∧ Calls P g cargs x.w fun e w' => ∃ v y r, e = .returned v ∧ y.w = w' ∧ KK .go r y.σ ∧ VRel y r v ∧ WRel y ∧ Ext x y := by
  obtain ⟨cl, hop, hargs, ⟨pf, hcal, hpf⟩ | ⟨k, name, hcal, rfl⟩⟩ := cI_call h1
  · have hk' : callV P x.σ (opv ek f) (opvs ek as) KK := by
      cases f with
      | t k => exact hk
      | c v => exact hk
      | m k n => cases pf <;> simp [cO] at hpf
    obtain ⟨g, caps, us, hf, has, R, hR, hk⟩ := callV_some hk'
    have hfr := opv_rel he hpf hf
    have har := opvs_rel he hargs has
    simp only [VRel] at hfr
    obtain ⟨lc, hfv, hlc⟩ := hfr
    have hall := har.app hlc
    have hcalls := hR.2 x _ rfl hx hall
    have hrun : (execOp a.eval o).run P x.w = .ok (.enter g (cl.args.map a.eval ++ lc.toArray)) x.w := by
      simp only [execOp, hop, resolve, hcal, hfv, Deferred.ofValue, Sem.run_bind, Sem.run_pure, Result.andThen_ok, invoke]
      simpa using callFunc_enter hR.1 _ _
    have hargsEq : (cl.args.toList.map a.eval ++ lc).toArray = cl.args.map a.eval ++ lc.toArray := by
      apply Array.ext'
      simp
    rw [hargsEq] at hcalls
    refine ⟨g, _, hrun, hcalls.mono ?_⟩
    rintro ex w' ⟨v, y, r, rfl, rfl, hRr, hrv, hy, hxy⟩
    exact ⟨v, y, r, rfl, rfl, hk r y.σ hRr, hrv, hy, hxy⟩
  · simp only [callO] at hk
    unfold callM at hk
    split at hk
    · rename_i ty u us hg has
      obtain ⟨g, hm, R, hR, hk⟩ := onRow_some hk
      obtain ⟨c, hc, hr⟩ := he k _ hg
      simp only [VRel] at hr
      obtain ⟨cv, rfl, hcv⟩ := hr
      have har := opvs_rel he hargs has
      have hall : VsRel x (u :: us) (cv :: cl.args.toList.map a.eval) := by simp only [VsRel]; exact ⟨_, _, rfl, hcv, har⟩
      have hcalls := hR.2 x _ rfl hx hall
      have hev : a.eval (.tmp k) = .iface ty cv := by simp only [Act.eval, Array.getD_eq_getD_getElem?, hc, Option.getD_some]
      have hsz : ∃ n, P.types.size + Made.depth = n + 1 := ⟨P.types.size + 99, rfl⟩
      obtain ⟨n, hn⟩ := hsz
      have hrun : (execOp a.eval o).run P x.w = .ok (.enter g (#[cv] ++ cl.args.map a.eval)) x.w := by
        simp only [execOp, hop, resolve, hcal, hev, Sem.run_bind, Sem.run_pure, Result.andThen_ok, invoke]
        have h0 : (#[Value.iface ty cv] ++ cl.args.map a.eval)[0]? = some (Value.iface ty cv) := by rw [Array.getElem?_append_left (by simp)]; rfl
        have hex : (#[Value.iface ty cv] ++ cl.args.map a.eval).extract 1 (#[Value.iface ty cv] ++ cl.args.map a.eval).size = cl.args.map a.eval := by
          exact behind_first _ _
        simp only [h0, hex, callMethod, Sem.run_bind, run_program, Result.andThen_ok, hn, method_run hm]
        exact callFunc_enter hR.1 _ _
      have hargsEq : (cv :: cl.args.toList.map a.eval).toArray = #[cv] ++ cl.args.map a.eval := by
        apply Array.ext'
        simp
      rw [hargsEq] at hcalls
      refine ⟨g, _, hrun, hcalls.mono ?_⟩
      rintro ex w' ⟨v, y, r, rfl, rfl, hRr, hrv, hy, hxy⟩
      exact ⟨v, y, r, rfl, rfl, hk r y.σ hRr, hrv, hy, hxy⟩
    · exact hk.elim

theorem runI_ev {d : Option Nat} {K : St → Prop} {e : Env} {σ : Store} {i : I} (hn : ∀ f as, i ≠ .call f as) (h : runI P d K e σ i) : ev e σ (iK e d K) i := by
  unfold runI at h
  split at h
  · exact (hn _ _ rfl).elim
  · exact h

theorem vcOps_sound {ops : Array Oper} {n : Nat} {Q : Exit → Act → World → Prop} {x0 : Cx} {K : St → Prop} (hQ : ∀ a w, Post x0 n K a w → Q .normal a w) :
    ∀ (l : List Nat) (ins : List In), l.length = ins.length → (∀ (k i : Nat) (c : In), l[k]? = some i → ins[k]? = some c → ∃ o, ops[i]? = some o ∧ cIn P ops n o = some c) →
    ∀ (x : Cx) (e : Env) (a : Act), Ext x0 x → WRel x → ERel x e a.tmps → a.tmps.size = n → a.defers = [] → vcOps P ins K ⟨.go, e, x.σ⟩ → wpOps P ops Q l a x.w := by
  intro l
  induction l with
  | nil =>
    intro ins hlen hl x e a h0 hx he hn hd hk
    cases ins with
    | cons _ _ => simp at hlen
    | nil =>
    simp only [vcOps] at hk
    exact hQ _ _ ⟨x, e, hk, he, hx, h0, rfl, hn, hd⟩
  | cons i l ihl =>
    intro ins hlen hl x e a h0 hx he hn hd hk
    cases ins with
    | nil => simp at hlen
    | cons c ins =>
    obtain ⟨o, ho, hc⟩ := hl 0 i c rfl rfl
    obtain ⟨h1, h2, h3, h4⟩ := cIn_some hc
    have ih := ihl ins (by simpa using hlen) (fun k i' c' hi hc => hl (k + 1) i' c' (by simpa using hi) (by simpa using hc))
    have go_true : runIn P c (vcOps P ins K) ⟨.go, e, x.σ⟩ → o.wp P a x.w (wpOps P ops Q l) Q := by
      intro hk
      by_cases hcall : ∃ f as, c.i = .call f as
      · obtain ⟨f, as, hcall⟩ := hcall
        simp only [runIn, runI, hcall] at hk
        rw [hcall] at h1
        obtain ⟨g, cargs, hrun, hcalls⟩ := call_enter h1 hx he hk
        simp only [Oper.wp, hrun, Oper.upon]
        refine hcalls.mono ?_
        rintro ex w' ⟨v, y, r, rfl, rfl, hRr, hrv, hy, hxy⟩
        rw [h2]
        exact ih y _ _ (h0.trans hxy) hy ((he.mono hxy).put hrv (fun k hk => by rw [hn]; exact h3 k hk)) (by rw [put_size]; exact hn) (by rw [put_defers]; exact hd) hRr
      · have hk' : ev e x.σ (iK e c.dst (vcOps P ins K)) c.i := runI_ev (fun f as hh => hcall ⟨f, as, hh⟩) hk
        obtain ⟨nx, y, r, hrun, hkk, hnr, hy, hxy⟩ := cI_sound hx he h1 (fun f as hh => hcall ⟨f, as, hh⟩) hk'
        simp only [Oper.wp, hrun]
        cases nx <;> first | (simp only [NRel] at hnr; done) | skip
        case value v =>
          cases r with
          | none => simp [NRel] at hnr
          | some u =>
            simp only [Oper.upon]
            rw [h2]
            exact ih y _ _ (h0.trans hxy) hy ((he.mono hxy).put hnr (fun k hk => by rw [hn]; exact h3 k hk)) (by rw [put_size]; exact hn) (by rw [put_defers]; exact hd) hkk
        case skip =>
          cases r with
          | some u => simp [NRel] at hnr
          | none =>
            simp only [Oper.upon]
            rw [h2]
            exact ih y _ _ (h0.trans hxy) hy ((he.mono hxy).put (rel_undef y) (fun k hk => by rw [hn]; exact h3 k hk)) (by rw [put_size]; exact hn) (by rw [put_defers]; exact hd) hkk
    have go_false : vcOps P ins K ⟨.go, setD e c.dst (.tup []), x.σ⟩ → wpOps P ops Q l (a.put o.dst undef) x.w := by
      intro hk
      rw [h2]
      exact ih x _ _ h0 hx (he.put (rel_undef x) (fun k hk => by rw [hn]; exact h3 k hk)) (by rw [put_size]; exact hn) (by rw [put_defers]; exact hd) hk
    simp only [vcOps] at hk
    simp only [wpOps, ho]
    rcases h4 with ⟨hg, hcg⟩ | ⟨j, b, s, hg, hs, hcg⟩
    · rw [hcg] at hk
      simp only [wantK] at hk
      rw [if_pos (by simp [Region.wanted, hg])]
      exact .inl (go_true hk)
    · rw [hcg] at hk
      simp only [wantK] at hk
      rcases wantV_some hk with ⟨v, hv, hkt, hkf⟩ | ⟨hv, hk⟩
      · obtain ⟨c', hc', hr'⟩ := he s _ hv
        have hb := rel_bool hr'
        subst hb
        have hy : yielded ops a.tmps j = some v := by
          simp [yielded, hs, hc']
        cases v <;> cases b
        · rw [if_pos (by simp [Region.wanted, hg, hy])]
          exact .inl (go_true (hkf rfl))
        · rw [if_neg (by simp [Region.wanted, hg, hy])]
          exact go_false (hkf rfl)
        · rw [if_neg (by simp [Region.wanted, hg, hy])]
          exact go_false (hkt rfl)
        · rw [if_pos (by simp [Region.wanted, hg, hy])]
          exact .inl (go_true (hkt rfl))
      · obtain ⟨c', hc', hr'⟩ := he s _ hv
        simp only [VRel] at hr'
        obtain ⟨l', rfl, hl'⟩ := hr'
        have hy : yielded ops a.tmps j = none := by
          simp [yielded, hs, hc']
        rw [if_neg (by simp [Region.wanted, hg, hy])]
        exact go_false hk
end
end Go.Ab
