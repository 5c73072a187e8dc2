/- How a law's arguments are opened into trees. Conditions: none (a library of lemmas). -/
import Derived.Test.YtleilaipdhmgeaaAbJ
import Derived.Deep.Slices
import Derived.ProofKit
import Derived.WalkKit
import Derived.OpenShut
import Derived.ChangeOld
import Derived.SizedLaws
set_option linter.unusedSimpArgs false
set_option linter.unusedVariables false
set_option linter.defProp false
namespace Go.Ab
open Go.Deep

inductive Sh where
  | bool
  | int (k : IntKind)
  | str
  | sl (n : Nat) (cells : List Sh)

def shFields (g : TypeId → Option (List Sh)) (P : Program) : Nat → List Field → Option (List Sh)
  | _, [] => some []
  | off, f :: fs => match g f.type, shFields g P (off + P.cellsOf f.type) fs with
    | some cs, some rest => if f.offset = off ∧ cs.length = P.cellsOf f.type then some (cs ++ rest) else none
    | _, _ => none
def shOf (P : Program) : Nat → TypeId → Option (List Sh)
  | 0, _ => none
  | m + 1, t => match P.underlying t with
    | some .bool => some [.bool]
    | some (.int k) => some [.int k]
    | some .string => some [.str]
    | some (.slice e) => match shOf P m e with
      | some cs => if cs.length = P.cellsOf e ∧ 0 < P.cellsOf e then some [.sl cs.length cs] else none
      | none => none
    | some (.struct fs) => match shFields (shOf P m) P 0 fs.toList with
      | some cs => if cs.length = P.cellsOf t then some cs else none
      | none => none
    | _ => none

mutual
def T.is : Sh → T → Prop
  | .bool, t => ∃ b, t = .bool b
  | .int k, t => ∃ n, t = .int k n ∧ (Lit.int k n).wf = true
  | .str, t => ∃ s, t = .str s ∧ s.length ≤ maxLen
  | .sl n cs, t => ∃ rows, t = .lst n rows ∧ rows.length ≤ maxLen ∧ ∀ r ∈ rows, T.isL cs r
def T.isL : List Sh → List T → Prop
  | [], r => r = []
  | c :: cs, r => ∃ t ts, r = t :: ts ∧ T.is c t ∧ T.isL cs ts
end
theorem T.isL_len : ∀ {cs : List Sh} {r : List T}, T.isL cs r → r.length = cs.length
  | [], r, h => by simp only [T.isL] at h; subst h; rfl
  | c :: cs, r, h => by
    simp only [T.isL] at h
    obtain ⟨t, ts, rfl, _, h⟩ := h
    simp [T.isL_len h]
theorem T.isL_app : ∀ {cs ds : List Sh} {r s : List T}, T.isL cs r → T.isL ds s → T.isL (cs ++ ds) (r ++ s)
  | [], ds, r, s, h, k => by simp only [T.isL] at h; subst h; simpa using k
  | c :: cs, ds, r, s, h, k => by
    simp only [T.isL] at h
    obtain ⟨t, ts, rfl, h1, h⟩ := h
    simp only [List.cons_append, T.isL]
    exact ⟨t, _, rfl, h1, T.isL_app h k⟩

def TsRel (F : Nat → Prop) (w : World) : List T → List Value → Prop
  | [], l => l = []
  | t :: ts, l => ∃ c cs, l = c :: cs ∧ TRel F w t c ∧ TsRel F w ts cs
theorem TsRel.app {F : Nat → Prop} {w : World} : ∀ {us vs : List T} {l m : List Value}, TsRel F w us l → TsRel F w vs m → TsRel F w (us ++ vs) (l ++ m)
  | [], vs, l, m, h, k => by simp only [TsRel] at h; subst h; simpa using k
  | u :: us, vs, l, m, h, k => by
    simp only [TsRel] at h
    obtain ⟨c, cs, rfl, hc, h⟩ := h
    simp only [List.cons_append, TsRel]
    exact ⟨c, _, rfl, hc, TsRel.app h k⟩
theorem TsRel.cells {F : Nat → Prop} {w : World} {b : Nat} : ∀ {us : List T} {l : List Value} {off : Nat}, TsRel F w us l → (∀ j v, l[j]? = some v → w.cell? ⟨b, off + j, none⟩ = some v) → TCells F w us b off
  | [], _, _, _, _ => by simp [TCells]
  | u :: us, l, off, h, k => by
    simp only [TsRel] at h
    obtain ⟨c, cs, rfl, hc, h⟩ := h
    simp only [TCells]
    refine ⟨⟨c, by simpa using k 0 c rfl, hc⟩, TsRel.cells h fun j v hj => ?_⟩
    rw [show off + 1 + j = off + (j + 1) by omega]
    exact k (j + 1) v (by simpa using hj)
theorem TsRel.vs {x : Cx} : ∀ {us : List T} {l : List Value}, TsRel x.F x.w us l → VsRel x (us.map .t) l
  | [], l, h => by simpa [TsRel, VsRel] using h
  | u :: us, l, h => by
    simp only [TsRel] at h
    obtain ⟨c, cs, rfl, hc, h⟩ := h
    simp only [List.map_cons, VsRel]
    exact ⟨c, cs, rfl, by simpa [VRel] using hc, TsRel.vs h⟩

section
variable {H : Type} {enc : TypeId × Value → H} {P : Program} {w : World} {base : Nat} {spare : Nat → Bool} {held : Bool}

theorem rows_open {F : Nat → Prop} {n : Nat} {cs : List Sh} {b : Nat} : ∀ (len off : Nat), (∀ i, i < len → ∃ ts, T.isL cs ts ∧ ts.length = n ∧ TCells F w ts b (off + i * n)) →
    ∃ rows : List (List T), rows.length = len ∧ (∀ r ∈ rows, T.isL cs r) ∧ TRows F w n rows b off
  | 0, off, _ => ⟨[], rfl, by simp, by simp [TRows]⟩
  | len + 1, off, h => by
    obtain ⟨ts, h1, h2, h3⟩ := h 0 (by omega)
    obtain ⟨rows, g1, g2, g3⟩ := rows_open (F := F) (cs := cs) len (off + n) fun i hi => by
      obtain ⟨ts, k1, k2, k3⟩ := h (i + 1) (by omega)
      refine ⟨ts, k1, k2, ?_⟩
      rw [show off + n + i * n = off + (i + 1) * n by rw [Nat.add_mul]; omega]
      exact k3
    refine ⟨ts :: rows, by simp [g1], by simpa using ⟨h1, g2⟩, ?_⟩
    simp only [TRows]
    exact ⟨h2, by simpa using h3, g3⟩

theorem fields_open {g : TypeId → Option (List Sh)} {F : Nat → Prop} (ih : ∀ t shs cs fuel x, g t = some shs → DataW.trod enc P w base spare held fuel t cs = some x → ∃ ts, T.isL shs ts ∧ TsRel F w ts cs) {cs : List Value} : ∀ (fs : List Field) (off : Nat) (shs : List Sh),
    shFields g P off fs = some shs → (∀ f ∈ fs, ∃ n x, DataW.trod enc P w base spare held n f.type ((cs.drop f.offset).take (P.cellsOf f.type)) = some x) → cs.length = off + shs.length → ∃ ts, T.isL shs ts ∧ TsRel F w ts (cs.drop off)
  | [], off, shs, h, _, hl => by
    simp only [shFields, Option.some.injEq] at h
    subst h
    refine ⟨[], by simp [T.isL], ?_⟩
    simp only [TsRel]
    exact List.drop_of_length_le (by simp at hl; omega)
  | f :: fs, off, shs, h, hf, hl => by
    simp only [shFields] at h
    split at h
    · rename_i a b ha hb
      split at h
      · rename_i hc
        obtain ⟨ho, hlen⟩ := hc
        obtain rfl := Option.some.inj h
        obtain ⟨n, x, hx⟩ := hf f (by simp)
        obtain ⟨ts, h1, h2⟩ := ih _ _ _ _ _ ha hx
        simp only [List.length_append] at hl
        obtain ⟨us, k1, k2⟩ := fields_open ih fs (off + P.cellsOf f.type) b hb (fun f' hf' => hf f' (by simp [hf'])) (by omega)
        refine ⟨ts ++ us, T.isL_app h1 k1, ?_⟩
        have := h2.app k2
        rw [ho, take_drop_step] at this
        exact this
      · cases h
    · cases h

theorem trod_open : ∀ (m : Nat) (t : TypeId) (shs : List Sh) (cs : List Value) (fuel : Nat) (x : DataW H × List MemPlace), shOf P m t = some shs → DataW.trod enc P w base spare held fuel t cs = some x → ∃ ts, T.isL shs ts ∧ TsRel (· < w.heap.size) w ts cs
  | 0, _, _, _, _, _, h, _ => by simp [shOf] at h
  | m + 1, t, shs, cs, fuel, x, h, hd => by
    simp only [shOf] at h
    split at h
    · rename_i ht
      obtain rfl := Option.some.inj h
      obtain ⟨b, rfl, _⟩ := DataW.trod_bool ht hd
      exact ⟨[.bool b], by simp [T.isL, T.is], by simp [TsRel, TRel]⟩
    · rename_i k ht
      obtain rfl := Option.some.inj h
      obtain ⟨n, rfl, _, hw⟩ := DataW.trod_int ht hd
      exact ⟨[.int k n], by simp [T.isL, T.is, hw], by simp [TsRel, TRel]⟩
    · rename_i ht
      obtain rfl := Option.some.inj h
      obtain ⟨s, rfl, _, hw⟩ := DataW.trod_string ht hd
      have hs : (⟨s.data.toList.toArray⟩ : ByteArray) = s := by cases s; simp
      refine ⟨[.str s.data.toList], ?_, ?_⟩
      rotate_left
      · simp only [TsRel, TRel]
        exact ⟨_, _, rfl, by rw [hs], rfl⟩
      simp only [T.isL, T.is]
      exact ⟨_, _, rfl, ⟨_, rfl, by rw [Array.length_toList]; exact hw⟩, rfl⟩
    · rename_i e ht
      split at h
      · rename_i ecs he
        split at h
        · rename_i hc
          obtain ⟨hlen, hpos⟩ := hc
          obtain rfl := Option.some.inj h
          rcases open_slice ht hd with ⟨rfl, _⟩ | ⟨ad, len, cap, mm, n, D, Pl, rfl, hb, hl, hm, hmm, _, hel⟩
          · refine ⟨[.lst ecs.length []], ?_, ?_⟩
            · simp only [T.isL, T.is]
              exact ⟨_, _, rfl, ⟨[], rfl, by simp, by simp⟩, rfl⟩
            · simp only [TsRel, TRel]
              exact ⟨_, _, rfl, ⟨none, 0, rfl, by simp, .inl rfl⟩, rfl⟩
          · have hlm : len ≤ mm := by rw [hmm]; split <;> omega
            by_cases h0 : len = 0
            · subst h0
              refine ⟨[.lst ecs.length []], ?_, ?_⟩
              · simp only [T.isL, T.is]
                exact ⟨_, _, rfl, ⟨[], rfl, by simp, by simp⟩, rfl⟩
              · simp only [TsRel, TRel]
                exact ⟨_, _, rfl, ⟨some ad, cap, rfl, by simp, .inl rfl⟩, rfl⟩
            · have hspot : ad.spot = none := by
                obtain ⟨cs', hcs, _⟩ := hel 0 (by omega)
                obtain ⟨_, hl', hcell⟩ := World.cells?_some hcs
                have := hcell 0 hpos
                simp only [Nat.zero_mul] at this
                have h1 : cs'[0]? = some cs'[0] := by simp
                rw [h1] at this
                have hsp := World.cell?_spot this
                rw [Addr.add_zero', Addr.add_zero'] at hsp
                exact hsp
              obtain ⟨b, off, sp⟩ := ad
              simp only at hspot
              subst hspot
              have hrow : ∀ i, i < len → ∃ ts, T.isL ecs ts ∧ ts.length = ecs.length ∧ TCells (· < w.heap.size) w ts b (off + i * ecs.length) := by
                intro i hi
                obtain ⟨cs', hcs, htr⟩ := hel i (by omega)
                obtain ⟨ts, k1, k2⟩ := trod_open m e ecs cs' n _ he htr
                obtain ⟨_, hl', hcell⟩ := World.cells?_some hcs
                refine ⟨ts, k1, T.isL_len k1, k2.cells fun j v hj => ?_⟩
                have hj' := (List.getElem?_eq_some_iff.1 hj).1
                have := hcell j (by omega)
                rw [addr_add, addr_add, hj] at this
                rw [hlen]
                exact this
              obtain ⟨rows, g1, g2, g3⟩ := rows_open len off hrow
              have hbl : b < w.heap.size := by
                obtain ⟨cs', hcs, _⟩ := hel 0 (by omega)
                obtain ⟨_, hl', hcell⟩ := World.cells?_some hcs
                have := hcell 0 hpos
                have h1 : cs'[0]? = some cs'[0] := by simp
                rw [h1, addr_add, addr_add] at this
                exact World.block_lt_of_cell? w _ this
              refine ⟨[.lst ecs.length rows], ?_, ?_⟩
              · simp only [T.isL, T.is]
                exact ⟨_, _, rfl, ⟨rows, rfl, by omega, g2⟩, rfl⟩
              · simp only [TsRel, TRel]
                exact ⟨_, _, rfl, ⟨some ⟨b, off, none⟩, cap, by rw [g1], by omega, .inr ⟨b, off, rfl, hbl, g3⟩⟩, rfl⟩
        · cases h
      · cases h
    · rename_i fs ht
      split at h
      · rename_i fcs hfs
        split at h
        · rename_i hlen
          obtain rfl := Option.some.inj h
          obtain ⟨xs, n, rfl, _, hcl, hxl, hall⟩ := DataW.trod_struct ht hd
          have := fields_open (F := (· < w.heap.size)) (fun t shs cs fuel x h1 h2 => trod_open m t shs cs fuel x h1 h2) fs.toList 0 fcs hfs (fun f hf => by
            obtain ⟨i, hi, rfl⟩ := List.getElem_of_mem hf
            have hi' : i < fs.size := by simpa using hi
            have := hall i fs[i] (by simp [hi'])
            have hx : xs[i]? = some xs[i] := by simp [hxl, hi']
            rw [hx] at this
            exact ⟨n, xs[i], by simpa using this⟩) (by omega)
          simpa using this
        · cases h
      · cases h
    · cases h

/-- The context in which a law is called: all that is there is frozen; no object yet. -/
def Cx.start (w : World) : Cx := ⟨fun _ => ⟨none, 0⟩, (· < w.heap.size), [], w⟩
theorem wrel_start (w : World) : WRel (Cx.start w) :=
  ⟨fun id o h => by simp [Cx.start] at h, fun i j b _ h _ _ => by simp [Cx.start] at h, fun b h => h⟩

theorem open_agg {m : Nat} {t : TypeId} {fs : Array Field} {shs : List Sh} {v : Value} {d : DataW H} {p : List MemPlace} {r : Reach} {b0 : Nat} (ht : P.underlying t = some (.struct fs)) (hs : shOf P m t = some shs) (hv : Value.okWide P w r b0 t v) (hd : DataW.Trod enc P w base spare held t v d p) :
    ∃ ts, T.isL shs ts ∧ VRel (Cx.start w) (.agg (ts.map .t)) v := by
  obtain ⟨fuel, hd⟩ := hd
  obtain ⟨ts, h1, h2⟩ := trod_open m t shs _ fuel _ hs hd
  simp only [Value.okWide, ht] at hv
  obtain ⟨cs, rfl, _⟩ := hv
  refine ⟨ts, h1, ?_⟩
  simp only [VRel]
  exact ⟨cs.toList, by simp, TsRel.vs (x := Cx.start w) h2⟩
theorem open_one {m : Nat} {t : TypeId} {sh : Sh} {v : Value} {d : DataW H} {p : List MemPlace} (hc : v.cells = #[v]) (hs : shOf P m t = some [sh]) (hd : DataW.Trod enc P w base spare held t v d p) :
    ∃ y, T.is sh y ∧ VRel (Cx.start w) (.t y) v := by
  obtain ⟨fuel, hd⟩ := hd
  obtain ⟨ts, h1, h2⟩ := trod_open m t [sh] _ fuel _ hs hd
  simp only [T.isL] at h1
  obtain ⟨y, _, rfl, h1, rfl⟩ := h1
  rw [hc] at h2
  simp only [TsRel] at h2
  obtain ⟨c, cs, hcc, h2, _⟩ := h2
  obtain ⟨rfl, _⟩ := List.cons.inj hcc
  exact ⟨y, h1, by simp only [VRel]; exact h2⟩
end
end Go.Ab
