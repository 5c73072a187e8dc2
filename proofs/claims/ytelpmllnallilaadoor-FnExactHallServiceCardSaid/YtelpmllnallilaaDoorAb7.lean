/- A contract of the model's own kind is one of this logic; variables of the program that are known. Conditions: none (a library of lemmas). -/
import Derived.Test.YtelpmllnallilaaDoorAb5
import Derived.Lib.LaidTab
import Derived.Sort.Grow
import Derived.Deep.Draws
set_option linter.unusedSimpArgs false
set_option linter.unusedVariables false
set_option linter.defProp false
namespace Go.Ab
open Go.RowKit

theorem below_ext {x : Cx} (hx : WRel x) {w' : World} (h : Below x.w.heap.size x.w w') : Ext x { x with w := w' } :=
  ⟨h.os, h.tape, h.output, h.size, fun _ h => h, fun b hb => h.block b (hx.low b hb), fun id o ho => ⟨o, ho, o.like_refl, Nat.le_refl _, fun _ => rfl⟩⟩
theorem below_wrel {x : Cx} (hx : WRel x) {w' : World} (h : Below x.w.heap.size x.w w') : WRel { x with w := w' } :=
  ⟨fun id o ho => ORel.keep (below_ext hx h) rfl (fun b _ hlt hf => ⟨h.block b hlt, hf⟩) (hx.objs id o ho), hx.inj, fun b hb => Nat.lt_of_lt_of_le (hx.low b hb) h.size⟩
/-- A call that only adds blocks. -/
theorem acalls_lift {P : Program} {f : FuncId} {args : List V} {σ : Store} {Q : V → Prop} (he : Enters P f)
    (h : ∀ (x : Cx) (cargs : List Value), x.σ = σ → WRel x → VsRel x args cargs → Calls P f cargs.toArray x.w fun e w' => ∃ v r, e = .returned v ∧ Below x.w.heap.size x.w w' ∧ Q r ∧ VRel { x with w := w' } r v) :
    ACalls P f args σ fun r σ' => Q r ∧ σ' = σ := by
  refine ⟨he, fun x cargs hσ hx ha => (h x cargs hσ hx ha).mono ?_⟩
  rintro e w' ⟨v, r, rfl, hb, hq, hv⟩
  exact ⟨v, { x with w := w' }, r, rfl, rfl, ⟨hq, hσ⟩, hv, below_wrel hx hb, below_ext hx hb⟩

/-- A variable of the program whose cells are known. -/
def VarAt (P : Program) (name : String) (cs : Array Value) (σ : Store) : Prop := ∃ (i b : Nat) (ty : TypeId) (fr : Nat × Nat), P.globalNamed name = some b ∧ σ[i]? = some (.glob b (.cells cs ty fr))
theorem VarAt.var {P : Program} {name : String} {cs : Array Value} {x : Cx} (h : VarAt P name cs x.σ) (hx : WRel x) : x.w.var? P name = some cs := by
  obtain ⟨i, b, ty, fr, h1, h2⟩ := h
  have := (hx.objs i _ h2).2.2
  simp [World.var?, h1, this]
theorem VarAt.husk {P : Program} {name : String} {cs : Array Value} {σ : Store} (h : VarAt P name cs σ) : VarAt P name cs (Ab.husk σ) := by
  obtain ⟨i, b, ty, fr, h1, h2⟩ := h
  exact ⟨i, b, ty, fr, h1, by rw [Ab.husk, List.getElem?_map, h2]; rfl⟩
theorem VarAt.app {P : Program} {name : String} {cs : Array Value} {σ : Store} (h : VarAt P name cs σ) (τ : Store) : VarAt P name cs (σ ++ τ) := by
  obtain ⟨i, b, ty, fr, h1, h2⟩ := h
  exact ⟨i, b, ty, fr, h1, by rw [List.getElem?_append_left (List.getElem?_eq_some_iff.1 h2).1]; exact h2⟩
theorem VarAt.set {P : Program} {name : String} {cs : Array Value} {σ : Store} (h : VarAt P name cs σ) {j : Nat} {o o' : Obj} (hj : σ[j]? = some o) (ho : ∀ b q, o ≠ .glob b q) : VarAt P name cs (σ.set j o') := by
  obtain ⟨i, b, ty, fr, h1, h2⟩ := h
  refine ⟨i, b, ty, fr, h1, ?_⟩
  rw [List.getElem?_set_ne (fun e => ?_)]
  · exact h2
  · subst e
    rw [hj] at h2
    exact ho _ _ (Option.some.inj h2)
theorem VarAt.kp {P : Program} {name : String} {cs : Array Value} {σ s : Store} (h : VarAt P name cs σ) (hk : Kp σ s) : VarAt P name cs s := by
  obtain ⟨i, b, ty, fr, h1, h2⟩ := h
  exact ⟨i, b, ty, fr, h1, by rw [hk i (List.getElem?_eq_some_iff.1 h2).1]; exact h2⟩

/-- A borrow by a function that reads variables of the program. -/
theorem call_borG {P : Program} {f : FuncId} {us vs : List V} {σ : Store} {y : V} {K : Tok → V → Store → Prop} {C : Store → Prop} (hC : ∀ σ, C σ → C (husk σ)) (hc : C σ) (h : ∀ σ, C σ → ACalls P f vs σ fun r σ' => r = y ∧ σ' = σ) (hy : y.free σ.length = true) (hs : SeesAs σ vs us) (hk : K .go y σ) : callV P σ (some (.fn (.func f) [])) (some us) K := by
  refine call_by (R := fun r σ' => ∃ τ, σ' = σ ++ τ ∧ (r = y ∧ τ = [])) (by rw [List.append_nil]; exact acalls_anewG ((h _ (hC _ hc)).mono fun r σ' hr => ⟨[], by simp [hr.2], by rw [hr.1]; exact hy, rfl, hr.1, rfl⟩) hs) ?_
  rintro r σ' ⟨τ, rfl, rfl, rfl⟩
  simpa using hk

/-- A law over a program some of whose variables are known. -/
theorem vs_on (G : Store) {W : World} : ∀ {us : List V} {l : List Value}, (∀ u ∈ us, (∃ t, u = .t t) ∨ ∃ ts : List T, u = .agg (ts.map .t)) → VsRel (Cx.start W) us l → VsRel (Cx.on G W) us l
  | [], l, _, h => by simpa [VsRel] using h
  | u :: us, l, hu, h => by
    simp only [VsRel] at h ⊢
    obtain ⟨c, cs, rfl, hc, h⟩ := h
    exact ⟨c, cs, rfl, sees_rel_dead (x := Cx.start W) G hc (hu u (by simp)), vs_on G (fun v hv => hu v (by simp [hv])) h⟩
theorem wrel_on {G : Store} {W : World} (hG : ∀ o ∈ G, ∃ b q, o = .glob b q ∧ W.heap[b]? = some q) : WRel (Cx.on G W) := by
  refine ⟨fun id o h => ?_, fun i j b _ _ _ h => by simp [Cx.on] at h, fun b h => h⟩
  obtain ⟨b, q, rfl, hq⟩ := hG o (List.mem_of_getElem? h)
  exact ⟨rfl, (Array.getElem?_eq_some_iff.1 hq).1, hq⟩
theorem calls_lawG {P : Program} {f : FuncId} {us : List V} {G : Store} {W : World} (hG : ∀ o ∈ G, ∃ b q, o = .glob b q ∧ W.heap[b]? = some q) (hu : ∀ u ∈ us, (∃ t, u = .t t) ∨ ∃ ts : List T, u = .agg (ts.map .t))
    (h : ACalls P f us G fun r _ => r = .t (.bool true)) {args : Array Value} (ha : VsRel (Cx.start W) us args.toList) :
    Calls P f args W fun e W' => e = .returned (.bool true) ∧ Below W.heap.size W W' := by
  have := h.2 (Cx.on G W) args.toList rfl (wrel_on hG) (vs_on G hu ha)
  simp only [Array.toArray_toList] at this
  refine Calls.mono this ?_
  rintro e w' ⟨v, y, r, rfl, rfl, rfl, hv, _, hxy⟩
  simp only [VRel, TRel] at hv
  exact ⟨by rw [hv], hxy.below (x := Cx.on G W) rfl rfl⟩
theorem var_heap {P : Program} {W : World} {name : String} {cs : Array Value} (h : W.var? P name = some cs) : ∃ b ty fr, P.globalNamed name = some b ∧ W.heap[b]? = some (.cells cs ty fr) := by
  unfold World.var? at h
  obtain ⟨g, hg, h⟩ := Option.bind_eq_some_iff.1 h
  split at h
  · rename_i cs' ty fr ho
    obtain rfl := Option.some.inj h
    exact ⟨g, ty, fr, hg, ho⟩
  · cases h
end Go.Ab
