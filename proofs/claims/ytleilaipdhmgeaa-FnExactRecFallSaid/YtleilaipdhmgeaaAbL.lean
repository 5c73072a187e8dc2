/- From a law's contract to what its row asks. Conditions: none (a library of lemmas). -/
import Derived.Test.YtleilaipdhmgeaaAbK
import Derived.Carry
set_option linter.unusedSimpArgs false
set_option linter.unusedVariables false
set_option linter.defProp false
namespace Go.Ab
open Go.RowKit

theorem Ext.below {x y : Cx} {W : World} (h : Ext x y) (hF : x.F = (· < W.heap.size)) (hw : x.w = W) : Below W.heap.size W y.w := by
  subst hw
  exact ⟨h.os, h.tape, h.output, h.size, fun k hk => h.block k (by rw [hF]; exact hk)⟩

theorem calls_law {P : Program} {f : FuncId} {us : List V} (h : ACalls P f us [] fun r _ => r = .t (.bool true)) {W : World} {args : Array Value} (ha : VsRel (Cx.start W) us args.toList) :
    Calls P f args W fun e W' => e = .returned (.bool true) ∧ Below W.heap.size W W' := by
  have := h.2 (Cx.start W) args.toList rfl (wrel_start W) ha
  simp only [Array.toArray_toList] at this
  refine Calls.mono this ?_
  rintro e w' ⟨v, y, r, rfl, rfl, rfl, hv, _, hxy⟩
  simp only [VRel, TRel] at hv
  exact ⟨by rw [hv], hxy.below rfl rfl⟩

theorem trodAll_below {H : Type} {enc : TypeId × Value → H} {P : Program} (hl : laidOutB P = true) {W W' : World} (hb : Below W.heap.size W W') : ∀ {ts : List TypeId} {vs : List Value} {ds : List (DataW H)} {ps : List MemPlace},
    (ts.all fun t => P.readableRec t && decide (t < P.types.size)) = true → DataW.TrodAll enc P W 0 (fun _ => true) true ts vs ds ps → (∀ x ∈ ps, x.block < W.heap.size) → DataW.TrodAll enc P W' 0 (fun b => decide (b < W.heap.size)) true ts vs ds ps
  | [], [], [], ps, _, h, _ => h
  | t :: ts, v :: vs, d :: ds, ps, hr, h, hlt => by
    obtain ⟨p, q, h1, h2, rfl⟩ := h
    simp only [List.all_cons, Bool.and_eq_true, decide_eq_true_eq] at hr
    exact ⟨p, q, Below.trod hl hr.1.1 hr.1.2 h1 hb (fun x hx => hlt x (List.mem_append_left _ hx)), trodAll_below hl hb (by simpa using hr.2) h2 (fun x hx => hlt x (List.mem_append_right _ hx)), rfl⟩
  | [], _ :: _, _, _, _, h, _ => h.elim
  | [], [], _ :: _, _, _, h, _ => h.elim
  | _ :: _, [], _, _, _, h, _ => h.elim
  | _ :: _, _ :: _, [], _, _, h, _ => h.elim
end Go.Ab
