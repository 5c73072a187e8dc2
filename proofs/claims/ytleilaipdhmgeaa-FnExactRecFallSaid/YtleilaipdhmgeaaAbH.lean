/- Code, loops and whole functions in our logic. Conditions: none (a library of lemmas). -/
import Derived.Test.YtleilaipdhmgeaaAbGd
import Derived.Deep.LoopGhost
set_option linter.unusedSimpArgs false
set_option linter.unusedVariables false
set_option linter.defProp false
namespace Go.Ab

inductive C where
  | skip
  | ops (l : List In)
  | drawn (l : List Ent)
  | seq (a b : C)
  | cond (o : O) (a b : C)
  | block (id : Nat) (c : C)
  | loop (c : C)
  | exit (id : Nat)
  | ret

def comp (P : Program) (n : Nat) : Code → Option C
  | .skip => some .skip
  | .label _ => some .skip
  | .region _ ops draw => if draw then (if P.follows .mixedOrders = true then (compDr P n ops).map .drawn else none) else (cOps P ops n ops.toList).map .ops
  | .seq a b => match comp P n a, comp P n b with
    | some a, some b => some (.seq a b)
    | _, _ => none
  | .cond c a b => match cO c, comp P n a, comp P n b with
    | some c, some a, some b => some (.cond c a b)
    | _, _, _ => none
  | .block id c => (comp P n c).map (.block id)
  | .loop c => (comp P n c).map .loop
  | .exit id => some (.exit id)
  | .ret => some .ret
  | _ => none

/-! ### what a value, an object may name -/
mutual
def V.lt (m : Nat) : V → Bool
  | .ptr id _ => decide (id < m)
  | .ep id _ _ _ => decide (id < m)
  | .sl id _ _ _ => decide (id < m)
  | .map id => decide (id < m)
  | .rows _ rs => V.ltss m rs
  | .agg cs => V.lts m cs
  | .tup cs => V.lts m cs
  | .fn _ cs => V.lts m cs
  | .iface _ u => u.lt m
  | _ => true
def V.lts (m : Nat) : List V → Bool
  | [] => true
  | u :: us => u.lt m && V.lts m us
def V.ltss (m : Nat) : List (List V) → Bool
  | [] => true
  | u :: us => V.lts m u && V.ltss m us
end
def Obj.lt (m : Nat) : Obj → Bool
  | .box cs => V.lts m cs
  | .slc _ rows => V.ltss m rows
  | .map _ es => es.all fun p => p.k.lt m && p.v.lt m
def ltσ (m : Nat) (σ : Store) : Bool := σ.all (Obj.lt m)

def keep : List Nat → Env → Env
  | [], _ => []
  | k :: ks, e => match eget e k with
    | some u => (k, u) :: keep ks e
    | none => keep ks e
def ltE (m : Nat) (e : Env) : Bool := e.all fun p => p.2.lt m

def St.cut (s : St) (ks : List Nat) (m : Nat) : St := ⟨.go, keep ks s.e, s.σ.take m⟩
/-- What is kept names nothing that is dropped. -/
def CutOk (b : Nat) (s : St) (ks : List Nat) (m : Nat) : Prop := b ≤ m ∧ (s.σ.length ≤ m ∨ (ltE m (keep ks s.e) = true ∧ ltσ m (s.σ.take m) = true))

inductive Ex where
  | n
  | x (id : Nat)
  | r

def thenK (A : St → Prop) (Q : Ex → St → Prop) : Ex → St → Prop
  | .n, s => A s
  | .x i, s => Q (.x i) s
  | .r, s => Q .r s
def blockK (id : Nat) (Q : Ex → St → Prop) : Ex → St → Prop
  | .n, s => Q .n s
  | .x i, s => if i = id then Q .n s else Q (.x i) s
  | .r, s => Q .r s
def LoopV (b : Nat) (body : (Ex → St → Prop) → St → Prop) (Q : Ex → St → Prop) (s : St) : Prop :=
  ∃ (ks : List Nat) (M : Store → Nat) (J : Nat → St → Prop) (n : Nat), CutOk b s ks (M s.σ) ∧ J n (s.cut ks (M s.σ)) ∧ ∀ n s', J n s' → body (thenK (fun s'' => CutOk b s'' ks (M s''.σ) ∧ ∃ n', n' < n ∧ J n' (s''.cut ks (M s''.σ))) Q) s'

def vc (P : Program) (b : Nat) : C → (Ex → St → Prop) → St → Prop
  | .skip, Q, s => Q .n s
  | .ops l, Q, s => vcOps P l (Q .n) s
  | .drawn l, Q, s => vcDr P l (Q .n) s
  | .seq c d, Q, s => vc P b c (thenK (vc P b d Q) Q) s
  | .cond o c d, Q, s => condV (opv s.e o) (fun t => vc P b c Q ⟨t, s.e, s.σ⟩) (fun t => vc P b d Q ⟨t, s.e, s.σ⟩)
  | .block id c, Q, s => vc P b c (blockK id Q) s
  | .loop c, Q, s => LoopV b (vc P b c) Q s
  | .exit id, Q, s => Q (.x id) s
  | .ret, Q, s => Q .r s

mutual
theorem VRel.cut {x : Cx} {m : Nat} : ∀ (u : V) (v : Value), u.lt m = true → VRel x u v → VRel { x with σ := x.σ.take m } u v
  | .t t, v, _, h => by simpa only [VRel] using h
  | .nils, _, _, h => by simpa [VRel] using h
  | .nilp, _, _, h => by simpa [VRel] using h
  | .nilf, _, _, h => by simpa [VRel] using h
  | .nili, _, _, h => by simpa [VRel] using h
  | .pv cs, v, _, h => by simpa only [VRel] using h
  | .ptr id off, v, hm, h => by
    simp only [VRel, V.lt, decide_eq_true_eq] at h hm ⊢
    obtain ⟨cs, b, ho, h⟩ := h
    exact ⟨cs, b, by rw [List.getElem?_take, if_pos hm]; exact ho, h⟩
  | .ep id g i j, v, hm, h => by
    simp only [VRel, V.lt, decide_eq_true_eq] at h hm ⊢
    obtain ⟨o, ho, h⟩ := h
    exact ⟨o, by rw [List.getElem?_take, if_pos hm]; exact ho, h⟩
  | .sl id g off len, v, hm, h => by
    simp only [VRel, V.lt, decide_eq_true_eq] at h hm ⊢
    obtain ⟨o, ho, h⟩ := h
    exact ⟨o, by rw [List.getElem?_take, if_pos hm]; exact ho, h⟩
  | .map id, v, hm, h => by
    simp only [VRel, V.lt, decide_eq_true_eq] at h hm ⊢
    obtain ⟨c, es, b, ho, h⟩ := h
    exact ⟨c, es, b, by rw [List.getElem?_take, if_pos hm]; exact ho, h⟩
  | .rows sz rs, v, hm, h => by
    simp only [VRel, V.lt] at h hm ⊢
    obtain ⟨a, hv, h⟩ := h
    refine ⟨a, hv, h.imp id ?_⟩
    rintro ⟨b, off, ha, hf, hr⟩
    exact ⟨b, off, ha, hf, VRows.cut rs b off hm hr⟩
  | .agg cs, v, hm, h => by
    simp only [VRel, V.lt] at h hm ⊢
    obtain ⟨l, hv, h⟩ := h
    exact ⟨l, hv, VsRel.cut cs l hm h⟩
  | .tup cs, v, hm, h => by
    simp only [VRel, V.lt] at h hm ⊢
    obtain ⟨l, hv, h⟩ := h
    exact ⟨l, hv, VsRel.cut cs l hm h⟩
  | .fn f cs, v, hm, h => by
    simp only [VRel, V.lt] at h hm ⊢
    obtain ⟨l, hv, h⟩ := h
    exact ⟨l, hv, VsRel.cut cs l hm h⟩
  | .iface ty u, v, hm, h => by
    simp only [VRel, V.lt] at h hm ⊢
    obtain ⟨c, hv, h⟩ := h
    exact ⟨c, hv, VRel.cut u c hm h⟩
theorem VsRel.cut {x : Cx} {m : Nat} : ∀ (us : List V) (l : List Value), V.lts m us = true → VsRel x us l → VsRel { x with σ := x.σ.take m } us l
  | [], _, _, h => by simpa [VsRel] using h
  | u :: us, l, hm, h => by
    simp only [VsRel, V.lts, Bool.and_eq_true] at h hm ⊢
    obtain ⟨c, cs, hl, hu, h⟩ := h
    exact ⟨c, cs, hl, VRel.cut u c hm.1 hu, VsRel.cut us cs hm.2 h⟩
theorem VRows.cut {x : Cx} {m sz : Nat} : ∀ (rows : List (List V)) (b off : Nat), V.ltss m rows = true → VRows x sz rows b off → VRows { x with σ := x.σ.take m } sz rows b off
  | [], _, _, _, _ => by simp [VRows]
  | r :: rs, b, off, hm, h => by
    simp only [VRows, V.ltss, Bool.and_eq_true] at h hm ⊢
    exact ⟨h.1, VCells.cut r b off hm.1 h.2.1, VRows.cut rs b (off + sz) hm.2 h.2.2⟩
theorem VCells.cut {x : Cx} {m : Nat} : ∀ (cs : List V) (b off : Nat), V.lts m cs = true → VCells x cs b off → VCells { x with σ := x.σ.take m } cs b off
  | [], _, _, _, _ => by simp [VCells]
  | u :: us, b, off, hm, h => by
    simp only [VCells, V.lts, Bool.and_eq_true] at h hm ⊢
    obtain ⟨⟨c, hc, hx⟩, h⟩ := h
    exact ⟨⟨c, hc, VRel.cut u c hm.1 hx⟩, VCells.cut us b (off + 1) hm.2 h⟩
end

theorem lts_flatten {m : Nat} : ∀ {rows : List (List V)}, V.ltss m rows = true → V.lts m rows.flatten = true
  | [], _ => by simp [V.lts]
  | r :: rs, h => by
    simp only [V.ltss, Bool.and_eq_true] at h
    have := lts_flatten h.2
    have app : ∀ {a b : List V}, V.lts m a = true → V.lts m b = true → V.lts m (a ++ b) = true := by
      intro a b ha hb
      induction a with
      | nil => simpa using hb
      | cons u us ih =>
        simp only [V.lts, Bool.and_eq_true, List.cons_append] at ha ⊢
        exact ⟨ha.1, ih ha.2⟩
    simpa using app h.1 this

theorem MRel.cut {x : Cx} {m : Nat} : ∀ {es : List ME} {l : List MapEntry}, (es.all fun p => p.k.lt m && p.v.lt m) = true → MRel x es l → MRel { x with σ := x.σ.take m } es l
  | [], _, _, h => by simpa [MRel] using h
  | m :: es, l, hm, h => by
    simp only [List.all_cons, Bool.and_eq_true] at hm
    simp only [MRel] at h ⊢
    obtain ⟨c, cs, hl, h1, h2, hb, h3⟩ := h
    exact ⟨c, cs, hl, VRel.cut _ _ hm.1.1 h1, VRel.cut _ _ hm.1.2 h2, hb, MRel.cut (by simpa using hm.2) h3⟩

theorem ORel.cut {x : Cx} {m id : Nat} {o : Obj} (hm : o.lt m = true) (h : ORel x id o) : ORel { x with σ := x.σ.take m } id o := by
  cases o with
  | box cs =>
    obtain ⟨b, arr, ty, fr, h1, h2, h3, h4, h5⟩ := h
    exact ⟨b, arr, ty, fr, h1, h2, h3, h4, VsRel.cut _ _ hm h5⟩
  | slc sz rows =>
    rcases h with h | ⟨b, arr, ty, fr, l, h1, h2, h3, h4, h5, h6, h7, h8, h9⟩
    · exact .inl h
    · exact .inr ⟨b, arr, ty, fr, l, h1, h2, h3, h4, h5, h6, h7, VsRel.cut _ _ (lts_flatten hm) h8, h9⟩
  | map c es =>
    obtain ⟨b, arr, h1, h2, h3, h4⟩ := h
    exact ⟨b, arr, h1, h2, h3, MRel.cut hm h4⟩

theorem WRel.cut {x : Cx} {m : Nat} (hx : WRel x) (hm : ltσ m (x.σ.take m) = true) : WRel { x with σ := x.σ.take m } where
  objs := fun id o ho => by
    have ho' : (x.σ.take m)[id]? = some o := ho
    have hlt : o.lt m = true := (List.all_eq_true.1 hm) o (List.mem_of_getElem? ho')
    rw [List.getElem?_take] at ho'
    split at ho'
    · exact ORel.cut hlt (hx.objs id o ho')
    · cases ho'
  inj := fun i j b hij hi hj => hx.inj i j b hij (by simp at hi; omega) (by simp at hj; omega)
  low := hx.low

theorem Ext.cut {x0 x : Cx} {m : Nat} (h : Ext x0 x) (hm : x0.σ.length ≤ m) : Ext x0 { x with σ := x.σ.take m } :=
  ⟨h.os, h.tape, h.output, h.size, h.F, h.block, fun id o ho => by
    obtain ⟨o', h1, h2⟩ := h.obj id o ho
    have := (List.getElem?_eq_some_iff.1 ho).1
    exact ⟨o', by show (x.σ.take m)[id]? = some o'; rw [List.getElem?_take, if_pos (by omega)]; exact h1, h2⟩⟩

theorem get_keep {e : Env} {u : V} {k : Nat} : ∀ {ks : List Nat}, eget (keep ks e) k = some u → eget e k = some u
  | [], h => by simp [keep, eget] at h
  | i :: ks, h => by
    simp only [keep] at h
    split at h
    · rename_i w hw
      simp only [eget] at h
      split at h
      · rename_i hk; subst hk; rw [hw]; exact h
      · exact get_keep h
    · exact get_keep h
theorem get_lt {m : Nat} {k : Nat} {u : V} : ∀ {e : Env}, ltE m e = true → eget e k = some u → u.lt m = true
  | [], _, h => by simp [eget] at h
  | (i, w) :: e, hm, h => by
    simp only [ltE, List.all_cons, Bool.and_eq_true] at hm
    simp only [eget] at h
    split at h
    · obtain rfl := Option.some.inj h; exact hm.1
    · exact get_lt (e := e) hm.2 h

theorem cut_sound {x0 x : Cx} {e : Env} {tmps : Array Value} {ks : List Nat} {m : Nat} (h0 : Ext x0 x) (hx : WRel x) (he : ERel x e tmps) (hc : CutOk x0.σ.length ⟨.go, e, x.σ⟩ ks m) :
    ∃ y, y.σ = x.σ.take m ∧ y.w = x.w ∧ Ext x0 y ∧ WRel y ∧ ERel y (keep ks e) tmps := by
  obtain ⟨hb, hc | ⟨h1, h2⟩⟩ := hc
  · refine ⟨x, (List.take_of_length_le hc).symm, rfl, h0, hx, fun k u hu => he k u (get_keep hu)⟩
  · refine ⟨{ x with σ := x.σ.take m }, rfl, rfl, h0.cut hb, hx.cut h2, fun k u hu => ?_⟩
    obtain ⟨v, hv, hr⟩ := he k u (get_keep hu)
    exact ⟨v, hv, VRel.cut u v (get_lt h1 hu) hr⟩

/-! ### code -/
def exIs : Exit → Ex → Prop
  | .normal, .n => True
  | .exit i, .x j => i = j
  | .ret, .r => True
  | _, _ => False

def AW (P : Program) (n : Nat) (c : Code) (x0 : Cx) (Q : Ex → St → Prop) (s : St) : Prop :=
  ∀ (x : Cx) (a : Act), x.σ = s.σ → Ext x0 x → WRel x → ERel x s.e a.tmps → a.tmps.size = n → a.defers = [] → c.wp P (fun ex a' w' => ∃ k, exIs ex k ∧ Post x0 n (Q k) a' w') a x.w

section
variable {P : Program} {n : Nat} {x0 : Cx}

theorem cOps_some {ops : Array Oper} : ∀ {os : List Oper} {ins : List In}, cOps P ops n os = some ins → os.length = ins.length ∧ ∀ (k : Nat) (o : Oper) (c : In), os[k]? = some o → ins[k]? = some c → cIn P ops n o = some c
  | [], ins, h => by simp [cOps] at h; subst h; simp
  | o :: os, ins, h => by
    simp only [cOps] at h
    split at h
    · rename_i i is h1 h2
      obtain rfl := Option.some.inj h
      obtain ⟨k1, k2⟩ := cOps_some h2
      refine ⟨by simp [k1], fun k o' c ho hc => ?_⟩
      cases k with
      | zero => simp at ho hc; subst ho; subst hc; exact h1
      | succ k => exact k2 k o' c (by simpa using ho) (by simpa using hc)
    · cases h

theorem vc_sound : ∀ {code : Code} {c : C}, comp P n code = some c → ∀ {Q : Ex → St → Prop} {s : St}, vc P x0.σ.length c Q s → AW P n code x0 Q s
  | .skip, c, hc, Q, s, hv => by
    simp only [comp, Option.some.injEq] at hc; subst hc
    intro x a hσ h0 hx he hn hd
    exact wp_skip ⟨.n, trivial, x, s.e, by rw [hσ]; exact hv, he, hx, h0, rfl, hn, hd⟩
  | .label l, c, hc, Q, s, hv => by
    simp only [comp, Option.some.injEq] at hc; subst hc
    intro x a hσ h0 hx he hn hd
    exact wp_label ⟨.n, trivial, x, s.e, by rw [hσ]; exact hv, he, hx, h0, rfl, hn, hd⟩
  | .ret, c, hc, Q, s, hv => by
    simp only [comp, Option.some.injEq] at hc; subst hc
    intro x a hσ h0 hx he hn hd
    exact wp_ret ⟨.r, trivial, x, s.e, by rw [hσ]; exact hv, he, hx, h0, rfl, hn, hd⟩
  | .exit id, c, hc, Q, s, hv => by
    simp only [comp, Option.some.injEq] at hc; subst hc
    intro x a hσ h0 hx he hn hd
    exact wp_exit ⟨.x id, rfl, x, s.e, by rw [hσ]; exact hv, he, hx, h0, rfl, hn, hd⟩
  | .region id ops draw, c, hc, Q, s, hv => by
    simp only [comp] at hc
    split at hc
    · rename_i hdraw
      split at hc
      · rename_i hm
        obtain ⟨es, hes, rfl⟩ := map_some hc
        intro x a hσ h0 hx he hn hd
        obtain rfl : draw = true := by simpa using hdraw
        exact drawn_sound (K := Q .n) (compDr_ok hes) hm (fun a w h => ⟨.n, trivial, h⟩) h0 hx he hn hd (by rw [hσ]; exact hv)
      · cases hc
    · rename_i hdraw
      obtain ⟨ins, hins, rfl⟩ := map_some hc
      intro x a hσ h0 hx he hn hd
      obtain rfl : draw = false := by simpa using hdraw
      obtain ⟨hlen, hget⟩ := cOps_some hins
      refine wp_region (vcOps_sound (K := Q .n) (fun a w h => ⟨.n, trivial, h⟩) (List.range ops.size) ins (by simpa using hlen) ?_ x s.e a h0 hx he hn hd (by rw [hσ]; exact hv))
      intro k i c' hi hc'
      have hk : k < ops.size := by
        have := (List.getElem?_eq_some_iff.1 hi).1
        simpa using this
      have : i = k := by
        rw [List.getElem?_range hk] at hi
        exact (Option.some.inj hi).symm
      subst this
      exact ⟨ops[i], by simp [hk], hget i ops[i] c' (by simp [hk]) hc'⟩
  | .seq p q, c, hc, Q, s, hv => by
    simp only [comp] at hc
    split at hc
    · rename_i c1 c2 h1 h2
      obtain rfl := Option.some.inj hc
      intro x a hσ h0 hx he hn hd
      refine wp_seq (wp_mono (vc_sound h1 hv x a hσ h0 hx he hn hd) ?_)
      rintro ex a' w' ⟨k, hk, y, e', hq, he', hy, h0', rfl, hn', hd'⟩
      cases ex <;> cases k <;> simp only [exIs] at hk
      · exact vc_sound h2 hq y a' rfl h0' hy he' hn' hd'
      · exact ⟨.x _, hk, y, e', hq, he', hy, h0', rfl, hn', hd'⟩
      · exact ⟨.r, trivial, y, e', hq, he', hy, h0', rfl, hn', hd'⟩
    · cases hc
  | .cond o p q, c, hc, Q, s, hv => by
    simp only [comp] at hc
    split at hc
    · rename_i o' c1 c2 h0' h1 h2
      obtain rfl := Option.some.inj hc
      intro x a hσ h0 hx he hn hd
      simp only [vc] at hv
      obtain ⟨v, hov, hv1, hv2⟩ := condV_some hv
      have hb := rel_bool (opv_rel he h0' hov)
      refine wp_cond_split hb (fun ht => ?_) (fun hf => ?_)
      · exact vc_sound h1 (hv1 ht) x a hσ h0 hx he hn hd
      · exact vc_sound h2 (hv2 hf) x a hσ h0 hx he hn hd
    · cases hc
  | .block id p, c, hc, Q, s, hv => by
    simp only [comp] at hc
    obtain ⟨c1, h1, rfl⟩ := map_some hc
    intro x a hσ h0 hx he hn hd
    refine wp_block (wp_mono (vc_sound h1 hv x a hσ h0 hx he hn hd) ?_)
    rintro ex a' w' ⟨k, hk, y, e', hq, he', hy, h0', rfl, hn', hd'⟩
    cases ex <;> cases k <;> simp only [exIs] at hk
    · exact ⟨.n, trivial, y, e', hq, he', hy, h0', rfl, hn', hd'⟩
    · subst hk
      simp only [Exit.inBlock]
      simp only [blockK] at hq
      split
      · rename_i hid
        simp only [hid, if_true] at hq
        exact ⟨.n, trivial, y, e', hq, he', hy, h0', rfl, hn', hd'⟩
      · rename_i hid
        simp only [hid, if_false] at hq
        exact ⟨.x _, rfl, y, e', hq, he', hy, h0', rfl, hn', hd'⟩
    · exact ⟨.r, trivial, y, e', hq, he', hy, h0', rfl, hn', hd'⟩
  | .loop p, c, hc, Q, s, hv => by
    simp only [comp] at hc
    obtain ⟨c1, h1, rfl⟩ := map_some hc
    intro x a hσ h0 hx he hn hd
    simp only [vc] at hv
    obtain ⟨ks, m, J, n0, hcut, hJ, hround⟩ := hv
    obtain ⟨y, hyσ, hyw, h0y, hy, hey⟩ := cut_sound h0 hx he (by rw [hσ]; exact hcut)
    rw [← hyw]
    refine wp_loop_ghost (fun k a w => ∃ (s : St) (x : Cx), J k s ∧ x.w = w ∧ x.σ = s.σ ∧ Ext x0 x ∧ WRel x ∧ ERel x s.e a.tmps ∧ a.tmps.size = n ∧ a.defers = []) n0
      ⟨s.cut ks (m s.σ), y, hJ, rfl, by rw [hyσ, hσ]; rfl, h0y, hy, hey, hn, hd⟩ ?_
    rintro k a w ⟨s', x, hJ', rfl, hσ', h0', hx', he', hn', hd'⟩
    refine wp_mono (vc_sound h1 (hround k s' hJ') x a hσ' h0' hx' he' hn' hd') ?_
    rintro ex a' w' ⟨k, hk, y, e', hq, he', hy, h0', rfl, hn', hd'⟩
    cases ex <;> cases k <;> simp only [exIs] at hk
    · obtain ⟨hc1, n', hlt, hJ1⟩ := hq
      obtain ⟨z, hzσ, hzw, h0z, hz, hez⟩ := cut_sound h0' hy he' hc1
      exact ⟨n', hlt, _, z, hJ1, hzw, hzσ, h0z, hz, hez, hn', hd'⟩
    · exact ⟨.x _, hk, y, e', hq, he', hy, h0', rfl, hn', hd'⟩
    · exact ⟨.r, trivial, y, e', hq, he', hy, h0', rfl, hn', hd'⟩
  | .rangeFunc _ _ _ _, c, hc, _, _, _ => by simp [comp] at hc
  | .scope _, c, hc, _, _, _ => by simp [comp] at hc
  | .goto _, c, hc, _, _, _ => by simp [comp] at hc
  | .refuse _, c, hc, _, _, _ => by simp [comp] at hc
end
end Go.Ab
