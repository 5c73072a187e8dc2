/- The program's DeskOk returns what the reference's returns. Conditions: none. -/
import Derived.Test.YtagemlbhlnjmmaaDesk
import Derived.JoinedOf
import Derived.Test.YtagemlbhlnjmmaaRows
set_option linter.unusedSimpArgs false
set_option linter.unusedVariables false
open Go Go.Ab
namespace Go.Proofs.Ytagemlbhlnjmmaa.DeskOkLaw
open Go.ChangeShapes Go.WideShapes Go.ChangeAt Go.RowKit

theorem own : ownKnob Try.prog.godebug = none := by kernel_rfl
theorem laid : laidOutB Try.prog = true := by kernel_rfl
set_option maxRecDepth 100000 in
theorem lifted (os : Os) (started : os.Started) (H : Type) (enc : TypeId × Value → H) :
    ReturnsInHanded {} Try.checked os 6 .any (Rows.fnExactDeskOkSpec.pre6 enc Try.prog Try.f6 Rows.fnExactDeskOkRow.domain false) (Rows.fnExactDeskOkSpec.post enc Try.prog Try.f6 false true false false) := by
  refine returnsInHanded_of_change_sized (C := Try.checked) own started (by kernel_rfl) Try.func6
    (ChangeSpec.witness6 (enc := enc) (C := Try.checked) false ⟨#[], #[.agg #[.string .empty, .string .empty, .string .empty, .string .empty]], []⟩ 8 (by kernel_rfl) (by kernel_rfl) (by kernel_rfl) (by kernel_rfl)) ?_
  intro W base args ds gs before hval0 hW hcnd hsz0 _
  have hW' := hW
  obtain ⟨p, q, hA0, hV, rfl, hfz, hnd⟩ := hW
  have hA : DataW.TrodAll enc Try.prog W 0 (fun _ => true) true Try.f6.params.toList args.toList ds p := hA0
  have hval : ∀ (j : Nat) t v, Try.f6.params[j]? = some t → args[j]? = some v → Value.okWide Try.prog W .any base t v := hval0
  have hB := hA
  rw [Try.params6] at hA hval
  obtain ⟨v0, vs0, d0, ds0, p0, q0, hargs, rfl, rfl, h0, r0⟩ := trodAll_cons hA
  obtain ⟨rfl, rfl, rfl⟩ := trodAll_nil r0
  obtain rfl : args = #[v0] := by cases args; simp_all
  obtain ⟨rfl, rfl⟩ := trodVars_none hV
  have hlt : ∀ x ∈ p0 ++ ([] : List MemPlace), x.block < W.heap.size := fun x hx => by simpa using hW'.lt x (by simpa using hx)
  obtain ⟨ts, his, hrel⟩ := open_agg (m := 4) (fs := _) Try.underlying28 (by kernel_rfl : shOf Try.prog 4 28 = some [.str, .str, .str, .str]) (hval 0 28 v0 rfl rfl) h0
  simp only [T.isL, T.is] at his
  obtain ⟨_, _, rfl, ⟨who, rfl, m1⟩, _, _, rfl, ⟨door, rfl, m2⟩, _, _, rfl, ⟨pre, rfl, m3⟩, _, _, rfl, ⟨text, rfl, m4⟩, rfl⟩ := his
  clear hA0 hval0 hsz0
  refine (calls_law (Go.Proofs.Ytagemlbhlnjmmaa.W.law ⟨who, door, pre, text⟩ ⟨m1, m2, m3, m4⟩ []) (show VsRel (Cx.start W) [_] [v0] by simp only [VsRel]; exact ⟨v0, [], rfl, hrel, rfl⟩)).mono fun e W' ⟨he, bel⟩ => ?_
  subst he
  exact ⟨_, rfl, _, _, _, [], _, [], hW', trodAll_mk1 (shut_bool Try.underlying4 _), trodAll_below laid bel (by kernel_rfl) hB hlt, rfl, bel.frame _, fun h => by cases h⟩
theorem over : Rows.fnExactDeskOkRow.holds Try.pinned (OpenSpec.ofChange Rows.fnExactDeskOkSpec) :=
  OpenClaim.holds_of_wide 6 Try.f6 rfl rfl rfl rfl rfl rfl rfl ⟨rfl, rfl, rfl, rfl, rfl⟩ rfl rfl rfl rfl rfl (by kernel_rfl) Try.func6 (by kernel_rfl)
    (of_decide_eq_true (by kernel_rfl)) (by unfold Func.isWrapper; first | (rw [if_pos (by decide +kernel)]; kernel_rfl) | (rw [if_neg (by decide +kernel)]; exact ⟨rfl, rfl⟩))
    (fun os started H enc _ => lifted os started H enc)
end Go.Proofs.Ytagemlbhlnjmmaa.DeskOkLaw
namespace Go.Proofs.Ytagemlbhlnjmmaa
theorem fnExactDeskOk_holds : Rows.FnExactDeskOkSaid := DeskOkLaw.over
end Go.Proofs.Ytagemlbhlnjmmaa
