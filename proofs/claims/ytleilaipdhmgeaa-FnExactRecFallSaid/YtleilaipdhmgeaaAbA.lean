/- The abstract values of our logic: data as trees, own objects by number; how they are related to the model's worlds; that the relation is kept when nothing that is frozen turns. Conditions: none (a library of lemmas). -/
import Derived.Below
import Derived.Laws.Cells
import Derived.Calls
set_option linter.unusedSimpArgs false
set_option linter.unusedVariables false
set_option linter.defProp false
namespace Go.Ab

inductive T where
  | int (k : IntKind) (n : Int)
  | bool (b : Bool)
  | str (s : List UInt8)
  | lst (sz : Nat) (rows : List (List T))

inductive V where
  | t (x : T)
  | nils
  | nilp
  | nilf
  | nili
  | pv (cells : List T)
  | ptr (id off : Nat)
  | ep (id g i j : Nat)
  | sl (id g off len : Nat)
  | map (id : Nat)
  | rows (sz : Nat) (rs : List (List V))
  | agg (cs : List V)
  | tup (cs : List V)
  | fn (f : Fn) (cs : List V)
  | iface (ty : Nat) (u : V)

structure Pl where
  blk : Option Nat
  cap : Nat

/-- An entry of a map: its key, its value, when it was born. -/
structure ME where
  k : V
  v : V
  b : Nat

inductive Obj where
  | box (cs : List V)
  | slc (sz : Nat) (rows : List (List V))
  | map (c : Nat) (es : List ME)

def Obj.gen : Obj → Nat
  | .box _ => 0
  | .slc _ rows => rows.length
  | .map _ _ => 0

def Obj.like : Obj → Obj → Prop
  | .box _, .box _ => True
  | .slc a _, .slc b _ => a = b
  | .map _ _, .map _ _ => True
  | _, _ => False

abbrev Store := List Obj

structure Cx where
  ρ : Nat → Pl
  F : Nat → Prop
  σ : Store
  w : World

mutual
def TRel (F : Nat → Prop) (w : World) : T → Value → Prop
  | .int k n, v => v = .int k n
  | .bool b, v => v = .bool b
  | .str s, v => v = .string ⟨s.toArray⟩
  | .lst sz rows, v => ∃ a c, v = .slice a rows.length c ∧ rows.length ≤ c ∧ (rows.length = 0 ∨ ∃ b off, a = some ⟨b, off, none⟩ ∧ F b ∧ TRows F w sz rows b off)
def TRows (F : Nat → Prop) (w : World) (sz : Nat) : List (List T) → Nat → Nat → Prop
  | [], _, _ => True
  | r :: rs, b, off => r.length = sz ∧ TCells F w r b off ∧ TRows F w sz rs b (off + sz)
def TCells (F : Nat → Prop) (w : World) : List T → Nat → Nat → Prop
  | [], _, _ => True
  | x :: xs, b, off => (∃ c, w.cell? ⟨b, off, none⟩ = some c ∧ TRel F w x c) ∧ TCells F w xs b (off + 1)
end

/-- What a slice of an object's elements is, while the object has not grown. -/
def SlOk (p : Pl) : Obj → (off len : Nat) → Option Addr → Nat → Prop
  | .slc sz rows, off, len, a, c => off + len ≤ rows.length ∧ (len = 0 ∨ ∃ b, p.blk = some b ∧ a = some ⟨b, off * sz, none⟩) ∧
      (off = 0 → len = rows.length → a = p.blk.map (fun b => ⟨b, 0, none⟩) ∧ c = p.cap)
  | _, _, _, _, _ => False

mutual
def VRel (x : Cx) : V → Value → Prop
  | .t y, v => TRel x.F x.w y v
  | .nils, v => v = .slice none 0 0
  | .nilp, v => v = .pointer none
  | .nilf, v => v = .nilFunc
  | .nili, v => v = .nilIface
  | .pv cs, v => ∃ b off, v = .pointer (some ⟨b, off, none⟩) ∧ x.F b ∧ TCells x.F x.w cs b off
  | .ptr id off, v => ∃ cs b, x.σ[id]? = some (.box cs) ∧ (x.ρ id).blk = some b ∧ v = .pointer (some ⟨b, off, none⟩)
  | .ep id g i j, v => ∃ o, x.σ[id]? = some o ∧ g ≤ o.gen ∧ ∃ a, v = .pointer (some a) ∧ (g = o.gen → ∃ b sz rows, (x.ρ id).blk = some b ∧ o = .slc sz rows ∧ a = ⟨b, i * sz + j, none⟩)
  | .sl id g off len, v => ∃ o, x.σ[id]? = some o ∧ g ≤ o.gen ∧ ∃ a c, v = .slice a len c ∧ len ≤ c ∧ (g = o.gen → SlOk (x.ρ id) o off len a c)
  | .map id, v => ∃ c es b, x.σ[id]? = some (.map c es) ∧ (x.ρ id).blk = some b ∧ v = .map (some b)
  | .rows sz rs, v => ∃ a, v = .slice a rs.length rs.length ∧ (rs.length = 0 ∨ ∃ b off, a = some ⟨b, off, none⟩ ∧ x.F b ∧ VRows x sz rs b off)
  | .agg cs, v => ∃ l, v = .agg l.toArray ∧ VsRel x cs l
  | .tup cs, v => ∃ l, v = .tuple l.toArray ∧ VsRel x cs l
  | .fn f cs, v => ∃ l, v = .func f #[] l.toArray ∧ VsRel x cs l
  | .iface ty u, v => ∃ c, v = .iface ty c ∧ VRel x u c
def VsRel (x : Cx) : List V → List Value → Prop
  | [], l => l = []
  | u :: us, l => ∃ c cs, l = c :: cs ∧ VRel x u c ∧ VsRel x us cs
def VRows (x : Cx) (sz : Nat) : List (List V) → Nat → Nat → Prop
  | [], _, _ => True
  | r :: rs, b, off => r.length = sz ∧ VCells x r b off ∧ VRows x sz rs b (off + sz)
def VCells (x : Cx) : List V → Nat → Nat → Prop
  | [], _, _ => True
  | u :: us, b, off => (∃ c, x.w.cell? ⟨b, off, none⟩ = some c ∧ VRel x u c) ∧ VCells x us b (off + 1)
end

def Unfrozen (fr : Nat × Nat) (n : Nat) : Prop := ∀ i, i < n → (decide (fr.1 ≤ i) && decide (i < fr.2)) = false

def MRel (x : Cx) : List ME → List MapEntry → Prop
  | [], l => l = []
  | e :: es, l => ∃ c cs, l = c :: cs ∧ VRel x e.k c.key ∧ VRel x e.v c.val ∧ c.born = e.b ∧ MRel x es cs

def ORel (x : Cx) (id : Nat) : Obj → Prop
  | .box cs => ∃ b arr ty fr, (x.ρ id).blk = some b ∧ ¬ x.F b ∧ x.w.heap[b]? = some (.cells arr ty fr) ∧ Unfrozen fr arr.size ∧ VsRel x cs arr.toList
  | .slc sz rows => (rows = [] ∧ x.ρ id = ⟨none, 0⟩) ∨ ∃ b arr ty fr l, (x.ρ id).blk = some b ∧ ¬ x.F b ∧ x.w.heap[b]? = some (.cells arr ty fr) ∧ Unfrozen fr arr.size ∧
      rows.length ≤ (x.ρ id).cap ∧ (x.ρ id).cap * sz ≤ arr.size ∧ (∀ r ∈ rows, r.length = sz) ∧ VsRel x rows.flatten l ∧ l <+: arr.toList ∧ ∀ v ∈ l, v.oneCell' = true
  | .map c es => ∃ b arr, (x.ρ id).blk = some b ∧ ¬ x.F b ∧ x.w.heap[b]? = some (.map arr c) ∧ MRel x es arr.toList

structure WRel (x : Cx) : Prop where
  objs : ∀ id o, x.σ[id]? = some o → ORel x id o
  inj : ∀ i j b, i ≠ j → i < x.σ.length → j < x.σ.length → (x.ρ i).blk = some b → (x.ρ j).blk ≠ some b
  low : ∀ b, x.F b → b < x.w.heap.size

structure Ext (x y : Cx) : Prop where
  os : y.w.os = x.w.os
  tape : y.w.tape = x.w.tape
  output : y.w.output = x.w.output
  size : x.w.heap.size ≤ y.w.heap.size
  F : ∀ b, x.F b → y.F b
  block : ∀ b, x.F b → y.w.heap[b]? = x.w.heap[b]?
  obj : ∀ id o, x.σ[id]? = some o → ∃ o', y.σ[id]? = some o' ∧ o.like o' ∧ o.gen ≤ o'.gen ∧ (o.gen = o'.gen → y.ρ id = x.ρ id)

theorem Obj.like_refl (o : Obj) : o.like o := by cases o <;> simp [Obj.like]
theorem Obj.like_trans {a b c : Obj} (h : a.like b) (k : b.like c) : a.like c := by
  cases a <;> cases b <;> cases c <;> simp_all [Obj.like]

theorem Ext.refl (x : Cx) : Ext x x := ⟨rfl, rfl, rfl, Nat.le_refl _, fun _ h => h, fun _ _ => rfl, fun _ o h => ⟨o, h, o.like_refl, Nat.le_refl _, fun _ => rfl⟩⟩
theorem Ext.trans {x y z : Cx} (h : Ext x y) (k : Ext y z) : Ext x z where
  os := k.os.trans h.os
  tape := k.tape.trans h.tape
  output := k.output.trans h.output
  size := Nat.le_trans h.size k.size
  F := fun b hb => k.F b (h.F b hb)
  block := fun b hb => (k.block b (h.F b hb)).trans (h.block b hb)
  obj := fun id o ho => by
    obtain ⟨o', h1, h2, h3, h4⟩ := h.obj id o ho
    obtain ⟨o'', k1, k2, k3, k4⟩ := k.obj id o' h1
    refine ⟨o'', k1, Obj.like_trans h2 k2, Nat.le_trans h3 k3, fun e => ?_⟩
    rw [k4 (by omega), h4 (by omega)]

theorem cell_of_block {w w' : World} {b : Nat} (h : w'.heap[b]? = w.heap[b]?) (off : Nat) : w'.cell? ⟨b, off, none⟩ = w.cell? ⟨b, off, none⟩ := by
  simp [World.cell?, h]

mutual
theorem TRel.mono {F F' : Nat → Prop} {w w' : World} (hF : ∀ b, F b → F' b) (hb : ∀ b, F b → w'.heap[b]? = w.heap[b]?) : ∀ (t : T) (v : Value), TRel F w t v → TRel F' w' t v
  | .int _ _, _, h => by simpa [TRel] using h
  | .bool _, _, h => by simpa [TRel] using h
  | .str _, _, h => by simpa [TRel] using h
  | .lst sz rows, v, h => by
    simp only [TRel] at h ⊢
    obtain ⟨a, c, hv, hc, h⟩ := h
    refine ⟨a, c, hv, hc, h.imp id ?_⟩
    rintro ⟨b, off, ha, hf, hr⟩
    exact ⟨b, off, ha, hF b hf, TRows.mono hF hb sz rows b off hf hr⟩
theorem TRows.mono {F F' : Nat → Prop} {w w' : World} (hF : ∀ b, F b → F' b) (hb : ∀ b, F b → w'.heap[b]? = w.heap[b]?) (sz : Nat) : ∀ (rows : List (List T)) (b off : Nat), F b → TRows F w sz rows b off → TRows F' w' sz rows b off
  | [], _, _, _, _ => by simp [TRows]
  | r :: rs, b, off, hf, h => by
    simp only [TRows] at h ⊢
    exact ⟨h.1, TCells.mono hF hb r b off hf h.2.1, TRows.mono hF hb sz rs b (off + sz) hf h.2.2⟩
theorem TCells.mono {F F' : Nat → Prop} {w w' : World} (hF : ∀ b, F b → F' b) (hb : ∀ b, F b → w'.heap[b]? = w.heap[b]?) : ∀ (cs : List T) (b off : Nat), F b → TCells F w cs b off → TCells F' w' cs b off
  | [], _, _, _, _ => by simp [TCells]
  | x :: xs, b, off, hf, h => by
    simp only [TCells] at h ⊢
    obtain ⟨⟨c, hc, hx⟩, h⟩ := h
    exact ⟨⟨c, (cell_of_block (hb b hf) off).trans hc, TRel.mono hF hb x c hx⟩, TCells.mono hF hb xs b (off + 1) hf h⟩
end

theorem SlOk.like {p : Pl} {o o' : Obj} (hl : o.like o') (hg : o.gen = o'.gen) {off len : Nat} {a : Option Addr} {c : Nat} (h : SlOk p o off len a c) : SlOk p o' off len a c := by
  cases o <;> cases o' <;> simp_all [SlOk, Obj.like, Obj.gen]

mutual
theorem VRel.mono {x y : Cx} (e : Ext x y) : ∀ (u : V) (v : Value), VRel x u v → VRel y u v
  | .t t, v, h => by simp only [VRel] at h ⊢; exact TRel.mono e.F e.block t v h
  | .nils, _, h => by simpa [VRel] using h
  | .nilp, _, h => by simpa [VRel] using h
  | .nilf, _, h => by simpa [VRel] using h
  | .nili, _, h => by simpa [VRel] using h
  | .pv cs, v, h => by
    simp only [VRel] at h ⊢
    obtain ⟨b, off, hv, hf, hc⟩ := h
    exact ⟨b, off, hv, e.F b hf, TCells.mono e.F e.block cs b off hf hc⟩
  | .ptr id off, v, h => by
    simp only [VRel] at h ⊢
    obtain ⟨cs, b, ho, hb, hv⟩ := h
    obtain ⟨o', ho', hl, hle, hρ⟩ := e.obj id _ ho
    cases o' with
    | box cs' => exact ⟨cs', b, ho', by rw [hρ rfl]; exact hb, hv⟩
    | map _ _ => simp [Obj.like] at hl
    | slc _ _ => simp [Obj.like] at hl
  | .sl id g off len, v, h => by
    simp only [VRel] at h ⊢
    obtain ⟨o, ho, hg, a, c, hv, hc, h⟩ := h
    obtain ⟨o', ho', hl, hle, hρ⟩ := e.obj id o ho
    refine ⟨o', ho', by omega, a, c, hv, hc, fun eq => ?_⟩
    rw [hρ (by omega)]; exact SlOk.like hl (by omega) (h (by omega))
  | .map id, v, h => by
    simp only [VRel] at h ⊢
    obtain ⟨c, es, b, ho, hb, hv⟩ := h
    obtain ⟨o', ho', hl, hle, hρ⟩ := e.obj id _ ho
    cases o' with
    | map c' es' => exact ⟨c', es', b, ho', by rw [hρ rfl]; exact hb, hv⟩
    | box _ => simp [Obj.like] at hl
    | slc _ _ => simp [Obj.like] at hl
  | .ep id g i j, v, h => by
    simp only [VRel] at h ⊢
    obtain ⟨o, ho, hg, a, hv, h⟩ := h
    obtain ⟨o', ho', hl, hle, hρ⟩ := e.obj id o ho
    refine ⟨o', ho', by omega, a, hv, fun eq => ?_⟩
    obtain ⟨b, sz, rows, h1, rfl, h3⟩ := h (by omega)
    cases o' with
    | slc sz' rows' =>
      simp only [Obj.like] at hl
      subst hl
      exact ⟨b, _, rows', by rw [hρ (by omega)]; exact h1, rfl, h3⟩
    | box _ => simp [Obj.like] at hl
    | map _ _ => simp [Obj.like] at hl
  | .rows sz rs, v, h => by
    simp only [VRel] at h ⊢
    obtain ⟨a, hv, h⟩ := h
    refine ⟨a, hv, h.imp id ?_⟩
    rintro ⟨b, off, ha, hf, hr⟩
    exact ⟨b, off, ha, e.F b hf, VRows.mono e sz rs b off hf hr⟩
  | .agg cs, v, h => by
    simp only [VRel] at h ⊢
    obtain ⟨l, hv, h⟩ := h
    exact ⟨l, hv, VsRel.mono e cs l h⟩
  | .tup cs, v, h => by
    simp only [VRel] at h ⊢
    obtain ⟨l, hv, h⟩ := h
    exact ⟨l, hv, VsRel.mono e cs l h⟩
  | .fn f cs, v, h => by
    simp only [VRel] at h ⊢
    obtain ⟨l, hv, h⟩ := h
    exact ⟨l, hv, VsRel.mono e cs l h⟩
  | .iface ty u, v, h => by
    simp only [VRel] at h ⊢
    obtain ⟨c, hv, h⟩ := h
    exact ⟨c, hv, VRel.mono e u c h⟩
theorem VsRel.mono {x y : Cx} (e : Ext x y) : ∀ (us : List V) (l : List Value), VsRel x us l → VsRel y us l
  | [], _, h => by simpa [VsRel] using h
  | u :: us, l, h => by
    simp only [VsRel] at h ⊢
    obtain ⟨c, cs, hl, hu, h⟩ := h
    exact ⟨c, cs, hl, VRel.mono e u c hu, VsRel.mono e us cs h⟩
theorem VRows.mono {x y : Cx} (e : Ext x y) (sz : Nat) : ∀ (rows : List (List V)) (b off : Nat), x.F b → VRows x sz rows b off → VRows y sz rows b off
  | [], _, _, _, _ => by simp [VRows]
  | r :: rs, b, off, hf, h => by
    simp only [VRows] at h ⊢
    exact ⟨h.1, VCells.mono e r b off hf h.2.1, VRows.mono e sz rs b (off + sz) hf h.2.2⟩
theorem VCells.mono {x y : Cx} (e : Ext x y) : ∀ (cs : List V) (b off : Nat), x.F b → VCells x cs b off → VCells y cs b off
  | [], _, _, _, _ => by simp [VCells]
  | u :: us, b, off, hf, h => by
    simp only [VCells] at h ⊢
    obtain ⟨⟨c, hc, hx⟩, h⟩ := h
    exact ⟨⟨c, (cell_of_block (e.block b hf) off).trans hc, VRel.mono e u c hx⟩, VCells.mono e us b (off + 1) hf h⟩
end

theorem MRel.mono {x y : Cx} (e : Ext x y) : ∀ {es : List ME} {l : List MapEntry}, MRel x es l → MRel y es l
  | [], _, h => by simpa [MRel] using h
  | m :: es, l, h => by
    simp only [MRel] at h ⊢
    obtain ⟨c, cs, hl, h1, h2, hb, h3⟩ := h
    exact ⟨c, cs, hl, VRel.mono e _ _ h1, VRel.mono e _ _ h2, hb, MRel.mono e h3⟩

theorem ORel.keep {x y : Cx} (e : Ext x y) {id : Nat} (hρ : y.ρ id = x.ρ id) (hb : ∀ b, (x.ρ id).blk = some b → b < x.w.heap.size → ¬ x.F b → y.w.heap[b]? = x.w.heap[b]? ∧ ¬ y.F b) {o : Obj} (h : ORel x id o) : ORel y id o := by
  cases o with
  | box cs =>
    obtain ⟨b, arr, ty, fr, h1, h2, h3, h4, h5⟩ := h
    obtain ⟨k1, k2⟩ := hb b h1 (Array.getElem?_eq_some_iff.1 h3).1 h2
    exact ⟨b, arr, ty, fr, hρ ▸ h1, k2, k1.trans h3, h4, VsRel.mono e _ _ h5⟩
  | slc sz rows =>
    rcases h with ⟨h1, h2⟩ | ⟨b, arr, ty, fr, l, h1, h2, h3, h4, h5, h6, h7, h8, h9⟩
    · exact .inl ⟨h1, hρ.trans h2⟩
    · obtain ⟨k1, k2⟩ := hb b h1 (Array.getElem?_eq_some_iff.1 h3).1 h2
      exact .inr ⟨b, arr, ty, fr, l, hρ ▸ h1, k2, k1.trans h3, h4, hρ ▸ h5, hρ ▸ h6, h7, VsRel.mono e _ _ h8, h9⟩
  | map c es =>
    obtain ⟨b, arr, h1, h2, h3, h4⟩ := h
    obtain ⟨k1, k2⟩ := hb b h1 (Array.getElem?_eq_some_iff.1 h3).1 h2
    exact ⟨b, arr, hρ ▸ h1, k2, k1.trans h3, MRel.mono e h4⟩

theorem ORel.blk_lt {x : Cx} {id : Nat} {o : Obj} (h : ORel x id o) {b : Nat} (hb : (x.ρ id).blk = some b) : b < x.w.heap.size ∧ ¬ x.F b := by
  cases o with
  | box cs =>
    obtain ⟨b', arr, ty, fr, h1, h2, h3, h4, h5⟩ := h
    rw [h1] at hb; obtain rfl := Option.some.inj hb
    exact ⟨(Array.getElem?_eq_some_iff.1 h3).1, h2⟩
  | slc sz rows =>
    rcases h with ⟨h1, h2⟩ | ⟨b', arr, ty, fr, l, h1, h2, h3, h4⟩
    · rw [h2] at hb; cases hb
    · rw [h1] at hb; obtain rfl := Option.some.inj hb
      exact ⟨(Array.getElem?_eq_some_iff.1 h3).1, h2⟩
  | map c es =>
    obtain ⟨b', arr, h1, h2, h3, h4⟩ := h
    rw [h1] at hb; obtain rfl := Option.some.inj hb
    exact ⟨(Array.getElem?_eq_some_iff.1 h3).1, h2⟩

def upd (ρ : Nat → Pl) (n : Nat) (p : Pl) : Nat → Pl := fun i => if i = n then p else ρ i
@[simp] theorem upd_same (ρ : Nat → Pl) (n : Nat) (p : Pl) : upd ρ n p n = p := by simp [upd]
theorem upd_other (ρ : Nat → Pl) (n : Nat) (p : Pl) {i : Nat} (h : i ≠ n) : upd ρ n p i = ρ i := by simp [upd, h]

/-- A draw of the model's tape changes nothing that we speak of. -/
theorem ext_drew (x : Cx) : Ext x { x with w := x.w.drew } :=
  ⟨rfl, rfl, rfl, Nat.le_refl _, fun _ h => h, fun _ _ => rfl, fun _ o h => ⟨o, h, o.like_refl, Nat.le_refl _, fun _ => rfl⟩⟩
theorem wrel_drew {x : Cx} (h : WRel x) : WRel { x with w := x.w.drew } where
  objs := fun id o ho => ORel.keep (ext_drew x) rfl (fun b _ _ hf => ⟨rfl, hf⟩) (h.objs id o ho)
  inj := h.inj
  low := h.low

theorem heap_alloc_lt (w : World) (o : Go.Obj) {k : Nat} (h : k < w.heap.size) : (w.alloc o).heap[k]? = w.heap[k]? := by
  show (w.heap.push o)[k]? = _
  rw [Array.getElem?_push, if_neg (by omega)]
theorem heap_alloc_new (w : World) (o : Go.Obj) : (w.alloc o).heap[w.heap.size]? = some o := by
  show (w.heap.push o)[w.heap.size]? = _
  simp

/-- A new block that is frozen from its birth on. -/
def Cx.frz (x : Cx) (o : Go.Obj) : Cx := { x with F := fun b => x.F b ∨ b = x.w.heap.size, w := x.w.alloc o }
theorem ext_frz {x : Cx} (h : WRel x) (o : Go.Obj) : Ext x (x.frz o) :=
  ⟨rfl, rfl, rfl, by simp [Cx.frz], fun _ h => .inl h, fun b hb => heap_alloc_lt _ _ (h.low b hb), fun _ o h => ⟨o, h, o.like_refl, Nat.le_refl _, fun _ => rfl⟩⟩
theorem wrel_frz {x : Cx} (h : WRel x) (o : Go.Obj) : WRel (x.frz o) where
  objs := fun id o' ho => ORel.keep (ext_frz h o) rfl (fun b _ hlt hf => ⟨heap_alloc_lt _ _ hlt, fun hh => hh.elim hf (fun e => by omega)⟩) (h.objs id o' ho)
  inj := h.inj
  low := fun b hb => by
    simp only [Cx.frz, World.size_alloc]
    rcases hb with hb | hb
    · have := h.low b hb; omega
    · omega

/-- A new block that belongs to a new object. -/
def Cx.neu (x : Cx) (ob : Obj) (cap : Nat) (o : Go.Obj) : Cx := { x with ρ := upd x.ρ x.σ.length ⟨some x.w.heap.size, cap⟩, σ := x.σ ++ [ob], w := x.w.alloc o }
theorem get_app {α : Type} {l : List α} {a : α} {i : Nat} {o : α} (h : l[i]? = some o) : (l ++ [a])[i]? = some o := by
  rw [List.getElem?_append_left (List.getElem?_eq_some_iff.1 h).1]; exact h
theorem ext_neu {x : Cx} (h : WRel x) (ob : Obj) (cap : Nat) (o : Go.Obj) : Ext x (x.neu ob cap o) :=
  ⟨rfl, rfl, rfl, by simp [Cx.neu], fun _ h => h, fun b hb => heap_alloc_lt _ _ (h.low b hb), fun id o ho =>
    ⟨o, get_app ho, o.like_refl, Nat.le_refl _, fun _ => upd_other _ _ _ (by have := (List.getElem?_eq_some_iff.1 ho).1; omega)⟩⟩
theorem wrel_neu {x : Cx} (h : WRel x) {ob : Obj} {cap : Nat} {o : Go.Obj} (hn : ORel (x.neu ob cap o) x.σ.length ob) : WRel (x.neu ob cap o) where
  objs := fun id o' ho => by
    by_cases e : id < x.σ.length
    · have ho' : x.σ[id]? = some o' := by
        have : (x.σ ++ [ob])[id]? = some o' := ho
        rwa [List.getElem?_append_left e] at this
      exact ORel.keep (ext_neu h ob cap o) (upd_other _ _ _ (by omega)) (fun b _ hlt hf => ⟨heap_alloc_lt _ _ hlt, hf⟩) (h.objs id o' ho')
    · have : (x.σ ++ [ob])[id]? = some o' := ho
      have hid : id = x.σ.length := by
        have := (List.getElem?_eq_some_iff.1 this).1
        simp at this; omega
      subst hid
      simp at this
      subst this
      exact hn
  inj := fun i j b hij hi hj hb => by
    simp only [Cx.neu, List.length_append, List.length_singleton] at hi hj hb ⊢
    by_cases ei : i = x.σ.length
    · subst ei
      rw [upd_same] at hb
      rw [upd_other _ _ _ (by omega)]
      intro hb'
      have hj' : j < x.σ.length := by omega
      have := (ORel.blk_lt (h.objs j x.σ[j] (by simp [hj'])) hb').1
      simp at hb; omega
    · rw [upd_other _ _ _ ei] at hb
      by_cases ej : j = x.σ.length
      · subst ej
        rw [upd_same]
        intro hb'
        have hi' : i < x.σ.length := by omega
        have := (ORel.blk_lt (h.objs i x.σ[i] (by simp [hi'])) hb).1
        simp at hb'; omega
      · rw [upd_other _ _ _ ej]
        exact h.inj i j b hij (by omega) (by omega) hb
  low := fun b hb => by
    have := h.low b hb
    simp only [Cx.neu, World.size_alloc]; omega


/-- One object turns: its block is written, or it moves to a new block. -/
def Cx.put (x : Cx) (id : Nat) (pl : Pl) (ob : Obj) (w' : World) : Cx := { x with ρ := upd x.ρ id pl, σ := x.σ.set id ob, w := w' }

theorem ext_put {x : Cx} (h : WRel x) {id : Nat} {o ob : Obj} {pl : Pl} {w' : World} (ho : x.σ[id]? = some o) (hl : o.like ob) (hg : o.gen ≤ ob.gen) (hp : o.gen = ob.gen → pl = x.ρ id)
    (h1 : w'.os = x.w.os) (h2 : w'.tape = x.w.tape) (h3 : w'.output = x.w.output) (hs : x.w.heap.size ≤ w'.heap.size)
    (hk : ∀ k, k < x.w.heap.size → (x.ρ id).blk ≠ some k → w'.heap[k]? = x.w.heap[k]?) : Ext x (x.put id pl ob w') where
  os := h1
  tape := h2
  output := h3
  size := hs
  F := fun _ h => h
  block := fun b hb => hk b (h.low b hb) (fun e => (ORel.blk_lt (h.objs id o ho) e).2 hb)
  obj := fun i o' hi => by
    have hid := (List.getElem?_eq_some_iff.1 ho).1
    by_cases e : i = id
    · subst e
      rw [ho] at hi; obtain rfl := Option.some.inj hi
      exact ⟨ob, by simp [Cx.put, hid], hl, hg, fun e => by simp [Cx.put, hp e]⟩
    · refine ⟨o', ?_, o'.like_refl, Nat.le_refl _, fun _ => upd_other _ _ _ e⟩
      simp only [Cx.put]
      rw [List.getElem?_set_ne (by omega)]
      exact hi

theorem wrel_put {x : Cx} (h : WRel x) {id : Nat} {o ob : Obj} {pl : Pl} {w' : World} (ho : x.σ[id]? = some o) (hl : o.like ob) (hg : o.gen ≤ ob.gen) (hp : o.gen = ob.gen → pl = x.ρ id)
    (h1 : w'.os = x.w.os) (h2 : w'.tape = x.w.tape) (h3 : w'.output = x.w.output) (hs : x.w.heap.size ≤ w'.heap.size)
    (hk : ∀ k, k < x.w.heap.size → (x.ρ id).blk ≠ some k → w'.heap[k]? = x.w.heap[k]?)
    (hb : ∀ b, pl.blk = some b → (x.ρ id).blk = some b ∨ x.w.heap.size ≤ b) (hn : ORel (x.put id pl ob w') id ob) : WRel (x.put id pl ob w') where
  objs := fun i o' hi => by
    have hid := (List.getElem?_eq_some_iff.1 ho).1
    by_cases e : i = id
    · subst e
      have : (x.σ.set i ob)[i]? = some o' := hi
      simp [hid] at this
      subst this
      exact hn
    · have hi' : x.σ[i]? = some o' := by
        have : (x.σ.set id ob)[i]? = some o' := hi
        rwa [List.getElem?_set_ne (by omega)] at this
      have hlt := (List.getElem?_eq_some_iff.1 hi').1
      exact ORel.keep (ext_put h ho hl hg hp h1 h2 h3 hs hk) (upd_other _ _ _ e) (fun b hb' hlt' hf => ⟨hk b hlt' (fun e' => h.inj id i b (by omega) hid hlt e' hb'), hf⟩) (h.objs i o' hi')
  inj := fun i j b hij hi hj hbi => by
    simp only [Cx.put, List.length_set] at hi hj hbi ⊢
    have hid := (List.getElem?_eq_some_iff.1 ho).1
    by_cases ei : i = id
    · subst ei
      rw [upd_same] at hbi
      rw [upd_other _ _ _ (by omega)]
      rcases hb b hbi with hh | hh
      · exact h.inj i j b hij hi hj hh
      · intro hj'
        have := (ORel.blk_lt (h.objs j x.σ[j] (by simp [hj])) hj').1
        omega
    · rw [upd_other _ _ _ ei] at hbi
      by_cases ej : j = id
      · subst ej
        rw [upd_same]
        intro hj'
        rcases hb b hj' with hh | hh
        · exact h.inj i j b hij hi hj hbi hh
        · have := (ORel.blk_lt (h.objs i x.σ[i] (by simp [hi])) hbi).1
          omega
      · rw [upd_other _ _ _ ej]
        exact h.inj i j b hij hi hj hbi
  low := fun b hb' => Nat.lt_of_lt_of_le (h.low b hb') hs

end Go.Ab
