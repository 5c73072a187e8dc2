/- The program's GateUnder returns what the reference's returns. Conditions: none. -/
import Derived.Test.YtagemlbhlnjmmaaUnder
import Derived.JoinedOf
import Derived.Test.YtagemlbhlnjmmaaRows
set_option linter.unusedSimpArgs false
set_option linter.unusedVariables false
open Go Go.Ab
namespace Go.Proofs.Ytagemlbhlnjmmaa.GateUnderLaw
open Go.ChangeShapes Go.WideShapes Go.ChangeAt Go.RowKit

theorem own : ownKnob Try.prog.godebug = none := by kernel_rfl
theorem laid : laidOutB Try.prog = true := by kernel_rfl
set_option maxRecDepth 100000 in
theorem lifted (os : Os) (started : os.Started) (H : Type) (enc : TypeId × Value → H) :
    ReturnsInHanded {} Try.checked os 7 .any (Rows.fnExactGateUnderSpec.pre6 enc Try.prog Try.f7 Rows.fnExactGateUnderRow.domain false) (Rows.fnExactGateUnderSpec.post enc Try.prog Try.f7 false true false false) := by
  refine returnsInHanded_of_change_sized (C := Try.checked) own started (by kernel_rfl) Try.func7
    (ChangeSpec.witness6 (enc := enc) (C := Try.checked) false ⟨#[], #[.slice none 0 0, .string .empty, .string .empty], []⟩ 8 (by kernel_rfl) (by kernel_rfl) (by kernel_rfl) (by kernel_rfl)) ?_
  intro W base args ds gs before hval0 hW hcnd hsz0 _
  have hW' := hW
  obtain ⟨p, q, hA0, hV, rfl, hfz, hnd⟩ := hW
  have hA : DataW.TrodAll enc Try.prog W 0 (fun _ => true) true Try.f7.params.toList args.toList ds p := hA0
  have hval : ∀ (j : Nat) t v, Try.f7.params[j]? = some t → args[j]? = some v → Value.okWide Try.prog W .any base t v := hval0
  have hB := hA
  rw [Try.params7] at hA hval
  obtain ⟨v0, vs0, d0, ds0, p0, q0, hargs, rfl, rfl, h0, r0⟩ := trodAll_cons hA
  obtain ⟨v1, vs1, d1, ds1, p1, q1, rfl, rfl, rfl, h1, r1⟩ := trodAll_cons r0
  obtain ⟨v2, vs2, d2, ds2, p2, q2, rfl, rfl, rfl, h2, r2⟩ := trodAll_cons r1
  obtain ⟨rfl, rfl, rfl⟩ := trodAll_nil r2
  obtain rfl : args = #[v0, v1, v2] := by cases args; simp_all
  obtain ⟨rfl, rfl⟩ := trodVars_none hV
  have hlt : ∀ x ∈ p0 ++ (p1 ++ (p2 ++ ([] : List MemPlace))), x.block < W.heap.size := fun x hx => by simpa using hW'.lt x (by simpa using hx)
  obtain ⟨ad, ln, cp, hv0⟩ := okWide_slice Try.underlying34 (hval 0 34 v0 rfl rfl)
  obtain ⟨s1, hv1⟩ := okWide_string Try.underlying9 (hval 1 9 v1 rfl rfl)
  obtain ⟨s2, hv2⟩ := okWide_string Try.underlying9 (hval 2 9 v2 rfl rfl)
  obtain ⟨y0, i0, e0⟩ := open_one (m := 4) (by rw [hv0]; rfl) (by kernel_rfl : shOf Try.prog 4 34 = some [.sl 2 [.str, .str]]) h0
  obtain ⟨y1, i1, e1⟩ := open_one (m := 4) (by rw [hv1]; rfl) (by kernel_rfl : shOf Try.prog 4 9 = some [.str]) h1
  obtain ⟨y2, i2, e2⟩ := open_one (m := 4) (by rw [hv2]; rfl) (by kernel_rfl : shOf Try.prog 4 9 = some [.str]) h2
  simp only [T.is] at i0 i1 i2
  obtain ⟨rows, rfl, m0, hrows⟩ := i0
  obtain ⟨a, rfl, m1⟩ := i1
  obtain ⟨b, rfl, m2⟩ := i2
  obtain ⟨l, rfl, hfit⟩ := Go.Proofs.Ytagemlbhlnjmmaa.W.rows_teams rows hrows
  clear hA0 hval0 hsz0
  refine (calls_law (Go.Proofs.Ytagemlbhlnjmmaa.W.lawUnder l a b (by simpa using m0) hfit []) (show VsRel (Cx.start W) [_, _, _] [v0, v1, v2] by simp only [VsRel]; exact ⟨v0, _, rfl, e0, v1, _, rfl, e1, v2, _, rfl, e2, rfl⟩)).mono fun e W' ⟨he, bel⟩ => ?_
  subst he
  exact ⟨_, rfl, _, _, _, [], _, [], hW', trodAll_mk1 (shut_bool Try.underlying4 _), trodAll_below laid bel (by kernel_rfl) hB hlt, rfl, bel.frame _, fun h => by cases h⟩
theorem over : Rows.fnExactGateUnderRow.holds Try.pinned (OpenSpec.ofChange Rows.fnExactGateUnderSpec) :=
  OpenClaim.holds_of_wide 7 Try.f7 rfl rfl rfl rfl rfl rfl rfl ⟨rfl, rfl, rfl, rfl, rfl⟩ rfl rfl rfl rfl rfl (by kernel_rfl) Try.func7 (by kernel_rfl)
    (of_decide_eq_true (by kernel_rfl)) (by unfold Func.isWrapper; first | (rw [if_pos (by decide +kernel)]; kernel_rfl) | (rw [if_neg (by decide +kernel)]; exact ⟨rfl, rfl⟩))
    (fun os started H enc _ => lifted os started H enc)
end Go.Proofs.Ytagemlbhlnjmmaa.GateUnderLaw
namespace Go.Proofs.Ytagemlbhlnjmmaa
theorem fnExactGateUnder_holds : Rows.FnExactGateUnderSaid := GateUnderLaw.over
end Go.Proofs.Ytagemlbhlnjmmaa
