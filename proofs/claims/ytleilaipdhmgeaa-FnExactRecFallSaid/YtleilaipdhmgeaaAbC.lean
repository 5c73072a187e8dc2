/- That each operation of the model does what its instruction says: operations that make or change no object. Conditions: none (a library of lemmas). -/
import Derived.Test.YtleilaipdhmgeaaAbB
set_option linter.unusedSimpArgs false
set_option linter.unusedVariables false
set_option linter.defProp false
namespace Go.Ab

def ERel (x : Cx) (e : Env) (tmps : Array Value) : Prop := ∀ k u, eget e k = some u → ∃ v, tmps[k]? = some v ∧ VRel x u v

def NRel (y : Cx) : Next → Option V → Prop
  | .value v, some u => VRel y u v
  | .skip, none => True
  | _, _ => False

def Step (P : Program) (x : Cx) (s : Sem Next) (K : Tok → Option V → Store → Prop) : Prop :=
  ∃ nx y r, s.run P x.w = .ok nx y.w ∧ K .go r y.σ ∧ NRel y nx r ∧ WRel y ∧ Ext x y

theorem Step.pure {P : Program} {x : Cx} {s : Sem Next} {K : Tok → Option V → Store → Prop} (hx : WRel x) {v : Value} {u : V} (hr : s.run P x.w = .ok (.value v) x.w) (hv : VRel x u v) (hk : K .go (some u) x.σ) : Step P x s K :=
  ⟨_, x, some u, hr, hk, hv, hx, Ext.refl x⟩

theorem onRow_some {α : Type} {o : Option α} {K : Tok → α → Prop} (h : onRow o K) : ∃ u, o = some u ∧ K .go u := by
  cases o with
  | none => exact h.elim
  | some u => exact ⟨u, rfl, h⟩
theorem onBox_some {o : Option Obj} {K : Tok → List V → Prop} (h : onBox o K) : ∃ cs, o = some (.box cs) ∧ K .go cs := by
  unfold onBox at h
  split at h
  · exact ⟨_, rfl, h⟩
  · exact h.elim
theorem onSlc_some {o : Option Obj} {K : Tok → Nat → List (List V) → Prop} (h : onSlc o K) : ∃ sz rows, o = some (.slc sz rows) ∧ K .go sz rows := by
  unfold onSlc at h
  split at h
  · exact ⟨_, _, rfl, h⟩
  · exact h.elim
theorem condV_some {o : Option V} {A B : Tok → Prop} (h : condV o A B) : ∃ v, o = some (.t (.bool v)) ∧ (v = true → A .go) ∧ (v = false → B .go) := by
  unfold condV at h
  split at h
  · exact ⟨_, rfl, h⟩
  · exact h.elim

theorem onV_some {o : Option V} {K : Tok → V → Prop} (h : onV o K) : ∃ u, o = some u ∧ K .go u := by
  cases o with
  | none => exact False.elim h
  | some u => exact ⟨u, rfl, h⟩

theorem cV0_rel (x : Cx) {v : Value} {u : V} (h : cV0 v = some u) : VRel x u v := by
  unfold cV0 at h
  split at h <;> first | (obtain rfl := Option.some.inj h; simp [VRel, TRel]) | cases h
theorem cVs_rel (x : Cx) : ∀ {vs : List Value} {us : List V}, cVs vs = some us → VsRel x us vs
  | [], us, h => by simp [cVs] at h; subst h; simp [VsRel]
  | v :: vs, us, h => by
    simp only [cVs] at h
    split at h
    · rename_i u us' h1 h2
      obtain rfl := Option.some.inj h
      exact ⟨v, vs, rfl, cV0_rel x h1, cVs_rel x h2⟩
    · cases h
theorem cV_rel (x : Cx) {v : Value} {u : V} (h : cV v = some u) : VRel x u v := by
  unfold cV at h
  split at h
  · rename_i cs
    cases hc : cVs cs.toList with
    | none => simp [hc] at h
    | some us =>
      simp [hc] at h
      subst h
      exact ⟨cs.toList, by simp, cVs_rel x hc⟩
  · exact cV0_rel x h

section
variable {P : Program} {x : Cx} {e : Env} {a : Act}
theorem opv_rel (he : ERel x e a.tmps) {p : Operand} {o : O} {u : V} (hc : cO p = some o) (h : opv e o = some u) : VRel x u (a.eval p) := by
  cases p with
  | tmp t =>
    simp only [cO, Option.some.injEq] at hc
    subst hc
    obtain ⟨v, hv, hr⟩ := he t u h
    have : a.eval (.tmp t) = v := by
      simp only [Act.eval, Array.getD_eq_getD_getElem?, hv, Option.getD_some]
    rw [this]; exact hr
  | const v =>
    simp only [cO] at hc
    cases hv : cV v with
    | none => simp [hv] at hc
    | some u' =>
      simp [hv] at hc
      subst hc
      simp only [opv, Option.some.injEq] at h
      subst h
      exact cV_rel x hv
  | func f =>
    simp only [cO, Option.some.injEq] at hc
    subst hc
    simp only [opv, Option.some.injEq] at h
    subst h
    exact ⟨[], rfl, rfl⟩
  | global g => simp [cO] at hc

theorem opvs_rel (he : ERel x e a.tmps) : ∀ {ps : List Operand} {os : List O} {us : List V}, cOs ps = some os → opvs e os = some us → VsRel x us (ps.map a.eval)
  | [], os, us, hc, h => by
    simp [cOs] at hc; subst hc
    simp [opvs] at h; subst h
    simp [VsRel]
  | p :: ps, os, us, hc, h => by
    simp only [cOs] at hc
    split at hc
    · rename_i o os' h1 h2
      obtain rfl := Option.some.inj hc
      simp only [opvs] at h
      split at h
      · rename_i u us' k1 k2
        obtain rfl := Option.some.inj h
        exact ⟨_, _, rfl, opv_rel he h1 k1, opvs_rel he h2 k2⟩
      · cases h
    · cases hc

theorem rel_int {k : IntKind} {n : Int} {v : Value} (h : VRel x (.t (.int k n)) v) : v = .int k n := by simpa [VRel, TRel] using h
theorem rel_bool {b : Bool} {v : Value} (h : VRel x (.t (.bool b)) v) : v = .bool b := by simpa [VRel, TRel] using h
theorem rel_str {s : List UInt8} {v : Value} (h : VRel x (.t (.str s)) v) : v = .string ⟨s.toArray⟩ := by simpa [VRel, TRel] using h
theorem mk_int (k : IntKind) (n : Int) : VRel x (.t (.int k n)) (.int k n) := by simp [VRel, TRel]
theorem mk_bool (b : Bool) : VRel x (.t (.bool b)) (.bool b) := by simp [VRel, TRel]
theorem mk_str (s : List UInt8) : VRel x (.t (.str s)) (.string ⟨s.toArray⟩) := by simp [VRel, TRel]

theorem step_mv (hx : WRel x) (he : ERel x e a.tmps) {p : Operand} {o : O} {K : Tok → Option V → Store → Prop} (hc : cO p = some o) (hk : ev e x.σ K (.mv o)) {s : Sem Next} (hs : s = Pure.pure (.value (a.eval p))) : Step P x s K := by
  obtain ⟨u, hu, hk⟩ := onV_some hk
  subst hs
  exact Step.pure hx (v := a.eval p) rfl (opv_rel he hc hu) hk

theorem step_pick (hx : WRel x) (he : ERel x e a.tmps) {c p q : Operand} {oc o1 o2 : O} {K : Tok → Option V → Store → Prop} (hc : cO c = some oc) (h1 : cO p = some o1) (h2 : cO q = some o2)
    (hk : ev e x.σ K (.pick oc o1 o2)) : Step P x (do pure (Next.value (if ← asBool (a.eval c) then a.eval p else a.eval q))) K := by
  obtain ⟨v, hu, hk⟩ := condV_some hk
  have hr := opv_rel he hc hu
  rw [rel_bool hr]
  cases v with
  | true =>
    obtain ⟨w, hw, hk⟩ := onV_some (hk.1 rfl)
    exact Step.pure hx (v := a.eval p) (by simp [asBool]) (opv_rel he h1 hw) hk
  | false =>
    obtain ⟨w, hw, hk⟩ := onV_some (hk.2 rfl)
    exact Step.pure hx (v := a.eval q) (by simp [asBool]) (opv_rel he h2 hw) hk

theorem evBin_sound {op : BinOp} {u v : V} {p q : Value} {K : Tok → V → Prop} (hp : VRel x u p) (hq : VRel x v q) (h : evBin op u v K) (t : TypeId) (ox oy : Operand) :
    ∃ r z, (do eqGuard op t ox oy p q; binOp op t p q : Sem Value).run P x.w = .ok r x.w ∧ VRel x z r ∧ K .go z := by
  unfold evBin at h
  split at h
  · rename_i k1 n1 k2 n2
    rw [rel_int hp, rel_int hq]
    split at h
    · unfold shInt at h
      split at h
      · obtain ⟨h0, h⟩ := h
        exact ⟨_, _, by simp [eqGuard_at_int, binOp, Op.shift, show ¬ n2 < 0 from by omega], mk_int _ _, h⟩
      · obtain ⟨h0, h⟩ := h
        exact ⟨_, _, by simp [eqGuard_at_int, binOp, Op.shift, show ¬ n2 < 0 from by omega], mk_int _ _, h⟩
      · exact h.elim
    · obtain ⟨rfl, h⟩ := h
      unfold binInt at h
      split at h
      case h_5 => exact ⟨_, _, by simp [eqGuard_at_int, binOp_rem, Op.intDiv, h.1], mk_int _ _, h.2⟩
      case h_4 => exact ⟨_, _, by simp [eqGuard_at_int, binOp_quo, Op.intDiv, h.1], mk_int _ _, h.2⟩
      all_goals first
        | (refine ⟨_, _, ?_, mk_int _ _, h⟩; simp [eqGuard_at_int, binOp_add, binOp_sub, binOp_mul, binOp_and, binOp_or, binOp_xor, binOp_andNot, Op.intArith, intBits_and, intBits_or, intBits_xor, intBits_andNot]; done)
        | (refine ⟨_, _, ?_, mk_bool _, h⟩; simp [eqGuard_at_int, binOp_eql, binOp_neq, binOp_lss, binOp_leq, binOp_gtr, binOp_geq]; done)
        | exact False.elim h
  · rename_i s1 s2
    rw [rel_str hp, rel_str hq]
    unfold binStr at h
    split at h
    case h_1 =>
      refine ⟨_, _, ?_, mk_str _, h.2⟩
      have h1 := h.1
      have : ¬ ((((⟨s1.toArray⟩ : ByteArray).size + (⟨s2.toArray⟩ : ByteArray).size : Nat) : Int) > IntKind.i64.max) := by
        simp only [ByteArray.size, List.size_toArray]
        have : IntKind.i64.max = 9223372036854775807 := by decide
        omega
      simp only [eqGuard_at_string, binOp, Op.stringOp, Sem.run_bind, Sem.run_pure, Result.andThen_ok, if_neg this]
      congr 2
    all_goals first
      | (refine ⟨_, _, ?_, mk_bool _, h⟩; simp [eqGuard_at_string, binOp, Op.stringOp]; done)
      | exact False.elim h
  · exact False.elim h

/-! ### nil -/
theorem eql_run {t : TypeId} {p q : Value} {b : Bool} (hb : ∀ op ox oy, op = BinOp.eql ∨ op = .neq → eqGuard op t ox oy p q = pure ())
    (h1 : ∀ op, op = BinOp.eql ∨ op = .neq → binOp op t p q = (if op = .eql then (do pure (.bool (← Op.equal t p q))) else (do pure (.bool (!(← Op.equal t p q)))))) (he : (Op.equal t p q).run P x.w = .ok b x.w) (neg : Bool) (ox oy : Operand) :
    (do eqGuard (if neg then .neq else .eql) t ox oy p q; binOp (if neg then .neq else .eql) t p q : Sem Value).run P x.w = .ok (.bool (if neg then !b else b)) x.w := by
  cases neg
  · simp [hb .eql ox oy (.inl rfl), h1 .eql (.inl rfl), he]
  · simp [hb .neq ox oy (.inr rfl), h1 .neq (.inr rfl), he]

theorem equalIn_ptr (d : Nat) {t e' : TypeId} (ht : P.underlying t = some (.pointer e')) (a c : Option Addr) (r : Bool) (h : (a = none ∧ c.isNone = r) ∨ (c = none ∧ a.isNone = r)) :
    (Op.equalIn (d + 1) t (.pointer a) (.pointer c)).run P x.w = .ok r x.w := by
  rcases h with ⟨rfl, h⟩ | ⟨rfl, h⟩
  · simp [Op.equalIn, run_underlying ht, h]
  · cases a with
    | none => simp [Op.equalIn, run_underlying ht] at *; exact h
    | some a => simp [Op.equalIn, run_underlying ht] at *; exact h
theorem equalIn_slc (d : Nat) {t e' : TypeId} (ht : P.underlying t = some (.slice e')) (a c : Option Addr) (n m n' m' : Nat) (r : Bool) (h : (a = none ∧ c.isNone = r) ∨ (c = none ∧ a.isNone = r)) :
    (Op.equalIn (d + 1) t (.slice a n m) (.slice c n' m')).run P x.w = .ok r x.w := by
  rcases h with ⟨rfl, h⟩ | ⟨rfl, h⟩
  · simp [Op.equalIn, run_underlying ht, h]
  · cases a with
    | none => simp [Op.equalIn, run_underlying ht] at *; exact h
    | some a => simp [Op.equalIn, run_underlying ht] at *; exact h
theorem equalIn_bool (d : Nat) {t : TypeId} (ht : P.underlying t = some .bool) (a b : Bool) : (Op.equalIn (d + 1) t (.bool a) (.bool b)).run P x.w = .ok (a == b) x.w := by
  simp [Op.equalIn, run_underlying ht]

theorem evNil_some {f : V → Option Bool} {neg : Bool} {a b : V} {K : Tok → V → Prop} (h : evNil f neg a b K) :
    ∃ p q r, f a = some p ∧ f b = some q ∧ ((p = true ∧ q = r) ∨ (q = true ∧ p = r)) ∧ K .go (.t (.bool (if neg then !r else r))) := by
  unfold evNil nilK at h
  split at h
  · rename_i r _ _ h1 h2
    exact ⟨_, _, _, h1, h2, .inl ⟨rfl, rfl⟩, h⟩
  · rename_i r _ _ _ h1 h2
    exact ⟨_, _, _, h1, h2, .inr ⟨rfl, rfl⟩, h⟩
  · exact h.elim

theorem evNilP_sound {neg : Bool} {u v : V} {p q : Value} {K : Tok → V → Prop} (hp : VRel x u p) (hq : VRel x v q) (h : evNil isNilP neg u v K) {t e' : TypeId} (ht : P.underlying t = some (.pointer e')) (ox oy : Operand) :
    ∃ r z, (do eqGuard (if neg then .neq else .eql) t ox oy p q; binOp (if neg then .neq else .eql) t p q : Sem Value).run P x.w = .ok r x.w ∧ VRel x z r ∧ K .go z := by
  have sh : ∀ {u : V} {p : Value} {b : Bool}, VRel x u p → isNilP u = some b → ∃ a, p = .pointer a ∧ a.isNone = b := by
    intro u p b hu hb
    unfold isNilP at hb
    split at hb <;> first | (obtain rfl := Option.some.inj hb) | cases hb
    · exact ⟨none, by simpa [VRel] using hu, rfl⟩
    · obtain ⟨b, off, rfl, _⟩ := hu; exact ⟨_, rfl, rfl⟩
    · obtain ⟨_, b, _, _, rfl⟩ := hu; exact ⟨_, rfl, rfl⟩
    · obtain ⟨_, _, _, a, rfl, _⟩ := hu; exact ⟨_, rfl, rfl⟩
  have go : ∀ (a c : Option Addr) (r : Bool), (a = none ∧ c.isNone = r) ∨ (c = none ∧ a.isNone = r) → (Op.equal t (.pointer a) (.pointer c)).run P x.w = .ok r x.w := by
    intro a c r h
    exact equalIn_ptr 9999 ht a c r h
  obtain ⟨b1, b2, r, h1, h2, hb, h⟩ := evNil_some h
  obtain ⟨a, rfl, ha⟩ := sh hp h1
  obtain ⟨c, rfl, hc⟩ := sh hq h2
  rcases hb with ⟨rfl, rfl⟩ | ⟨rfl, rfl⟩
  · refine ⟨_, _, eql_run (fun op ox oy _ => eqGuard_at_pointer ..) ?_ (go a c _ (.inl ⟨by simpa using ha, hc⟩)) neg ox oy, mk_bool _, h⟩
    rintro op (rfl | rfl) <;> simp [binOp]
  · refine ⟨_, _, eql_run (fun op ox oy _ => eqGuard_at_pointer ..) ?_ (go a c _ (.inr ⟨by simpa using hc, ha⟩)) neg ox oy, mk_bool _, h⟩
    rintro op (rfl | rfl) <;> simp [binOp]

theorem evNilS_sound {neg : Bool} {u v : V} {p q : Value} {K : Tok → V → Prop} (hp : VRel x u p) (hq : VRel x v q) (h : evNil isNilS neg u v K) {t e' : TypeId} (ht : P.underlying t = some (.slice e')) (ox oy : Operand) :
    ∃ r z, (do eqGuard (if neg then .neq else .eql) t ox oy p q; binOp (if neg then .neq else .eql) t p q : Sem Value).run P x.w = .ok r x.w ∧ VRel x z r ∧ K .go z := by
  have sh : ∀ {u : V} {p : Value} {b : Bool}, VRel x u p → isNilS u = some b → ∃ a n m, p = .slice a n m ∧ a.isNone = b := by
    intro u p b hu hb
    unfold isNilS at hb
    split at hb <;> first | (obtain rfl := Option.some.inj hb) | cases hb
    · exact ⟨none, 0, 0, by simpa [VRel] using hu, rfl⟩
    · simp only [VRel, TRel] at hu
      obtain ⟨a, c, rfl, _, h | ⟨b, off, rfl, _⟩⟩ := hu
      · simp at h
      · exact ⟨_, _, _, rfl, rfl⟩
    · simp only [VRel] at hu
      obtain ⟨a, rfl, h | ⟨b, off, rfl, _⟩⟩ := hu
      · simp at h
      · exact ⟨_, _, _, rfl, rfl⟩
  have go : ∀ (a c : Option Addr) (n m n' m' : Nat) (r : Bool), (a = none ∧ c.isNone = r) ∨ (c = none ∧ a.isNone = r) → (Op.equal t (.slice a n m) (.slice c n' m')).run P x.w = .ok r x.w :=
    fun a c n m n' m' r h => equalIn_slc 9999 ht a c n m n' m' r h
  obtain ⟨b1, b2, r, h1, h2, hb, h⟩ := evNil_some h
  obtain ⟨a, n, m, rfl, ha⟩ := sh hp h1
  obtain ⟨c, n', m', rfl, hc⟩ := sh hq h2
  rcases hb with ⟨rfl, rfl⟩ | ⟨rfl, rfl⟩
  · refine ⟨_, _, eql_run (fun op ox oy _ => eqGuard_at_slice ..) ?_ (go a c _ _ _ _ _ (.inl ⟨by simpa using ha, hc⟩)) neg ox oy, mk_bool _, h⟩
    rintro op (rfl | rfl) <;> simp [binOp]
  · refine ⟨_, _, eql_run (fun op ox oy _ => eqGuard_at_slice ..) ?_ (go a c _ _ _ _ _ (.inr ⟨by simpa using hc, ha⟩)) neg ox oy, mk_bool _, h⟩
    rintro op (rfl | rfl) <;> simp [binOp]

theorem evB_sound {neg : Bool} {a b : Bool} {p q : Value} {K : Tok → V → Prop} (hp : VRel x (.t (.bool a)) p) (hq : VRel x (.t (.bool b)) q) (h : K .go (.t (.bool (if neg then !(a == b) else (a == b))))) {t : TypeId} (ht : P.underlying t = some .bool) (ox oy : Operand) :
    ∃ r z, (do eqGuard (if neg then .neq else .eql) t ox oy p q; binOp (if neg then .neq else .eql) t p q : Sem Value).run P x.w = .ok r x.w ∧ VRel x z r ∧ K .go z := by
  rw [rel_bool hp, rel_bool hq]
  refine ⟨_, _, eql_run (fun op ox oy _ => eqGuard_at_bool ..) ?_ (equalIn_bool 9999 ht a b) neg ox oy, mk_bool _, h⟩
  rintro op (rfl | rfl) <;> simp [binOp]

theorem evUn_sound {op : UnOp} {u : V} {p : Value} {K : Tok → V → Prop} (hp : VRel x u p) (h : evUn op u K) : ∃ r z, (Op.unary op p).run P x.w = .ok r x.w ∧ VRel x z r ∧ K .go z := by
  unfold evUn at h
  split at h
  · rw [rel_int hp]; exact ⟨_, _, by simp [Op.unary, Op.intArith], mk_int _ _, h⟩
  · rw [rel_int hp]; exact ⟨_, _, by simp [Op.unary, intBits_xor], mk_int _ _, h⟩
  · rw [rel_bool hp]; exact ⟨_, _, by simp [Op.unary], mk_bool _, h⟩
  · exact h.elim
end
end Go.Ab
