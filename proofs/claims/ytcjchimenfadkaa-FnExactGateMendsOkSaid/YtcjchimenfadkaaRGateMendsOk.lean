/- The program's GateMendsOk answers as the reference's: the statement. Conditions: none. -/
import Derived.Test.YtcjchimenfadkaaLGateMendsOk
import Derived.Test.YtcjchimenfadkaaAb3
import Derived.JoinedOf
import Derived.Test.YtcjchimenfadkaaRows
set_option linter.unusedSimpArgs false
set_option linter.unusedVariables false
set_option linter.defProp false
open Go Go.Ab
namespace Go.Proofs.Ytcjchimenfadkaa.RGateMendsOk
open Go.ChangeShapes Go.WideShapes Go.ChangeAt Go.RowKit
open Go.Proofs.Ytcjchimenfadkaa.W

theorem own : ownKnob Try.prog.godebug = none := by kernel_rfl
theorem laid : laidOutB Try.prog = true := by kernel_rfl
set_option maxRecDepth 100000 in
theorem lifted (os : Os) (started : os.Started) (H : Type) (enc : TypeId × Value → H) :
    ReturnsInHanded {} Try.checked os 3 .any (Rows.fnExactGateMendsOkSpec.pre6 enc Try.prog Try.f3 Rows.fnExactGateMendsOkRow.domain false) (Rows.fnExactGateMendsOkSpec.post enc Try.prog Try.f3 false true false false) := by
  refine returnsInHanded_of_change_sized (C := Try.checked) own started (by kernel_rfl) Try.func3
    (ChangeSpec.witness6 (enc := enc) (C := Try.checked) false ⟨#[], #[.slice none 0 0, .slice none 0 0], []⟩ 8 (by kernel_rfl) (by kernel_rfl) (by kernel_rfl) (by kernel_rfl)) ?_
  intro W base args ds gs before hval0 hW hcnd hsz0 _
  have hW' := hW
  obtain ⟨p, q, hA0, hV, rfl, hfz, hnd⟩ := hW
  have hA : DataW.TrodAll enc Try.prog W 0 (fun _ => true) true Try.f3.params.toList args.toList ds p := hA0
  have hval : ∀ (j : Nat) t v, Try.f3.params[j]? = some t → args[j]? = some v → Value.okWide Try.prog W .any base t v := hval0
  have hB := hA
  rw [Try.params3] at hA hval
  obtain ⟨v0, vs0, d0, ds0, p0, q0, hargs, rfl, rfl, k0, r0⟩ := trodAll_cons hA
  obtain ⟨v1, vs1, d1, ds1, p1, q1, rfl, rfl, rfl, k1, r1⟩ := trodAll_cons r0
  obtain ⟨rfl, rfl, rfl⟩ := trodAll_nil r1
  obtain rfl : args = #[v0, v1] := by cases args; simp_all
  obtain ⟨rfl, rfl⟩ := trodVars_none hV
  have hlt : ∀ x ∈ p0 ++ (p1 ++ ([] : List MemPlace)), x.block < W.heap.size := fun x hx => by simpa using hW'.lt x (by simpa using hx)
  obtain ⟨ad0, ln0, cp0, hv0⟩ := okWide_slice Try.underlying22 (hval 0 22 v0 rfl rfl)
  obtain ⟨y0, his0, e0⟩ := open_one (m := 8) (by rw [hv0]; rfl) (by kernel_rfl : shOf Try.prog 8 22 = some [.sl 2 shGateShape]) k0
  obtain ⟨x0, rfl, q0⟩ := of_GateShapeS his0
  obtain ⟨ad1, ln1, cp1, hv1⟩ := okWide_slice Try.underlying23 (hval 1 23 v1 rfl rfl)
  obtain ⟨y1, his1, e1⟩ := open_one (m := 8) (by rw [hv1]; rfl) (by kernel_rfl : shOf Try.prog 8 23 = some [.sl 6 shGateMend]) k1
  obtain ⟨x1, rfl, q1⟩ := of_GateMendS his1
  clear hA0 hval0 hsz0
  refine (calls_law (Go.Proofs.Ytcjchimenfadkaa.LGateMendsOk.lawGateMendsOk x0 x1 his0 q0 his1 q1 []) (show VsRel (Cx.start W) [_, _] [v0, v1] by simp only [VsRel]; exact ⟨v0, _, rfl, e0, v1, _, rfl, e1, rfl⟩)).mono fun e W' ⟨he, bel⟩ => ?_
  subst he
  exact ⟨_, rfl, _, _, _, [], _, [], hW', trodAll_mk1 (shut_bool Try.underlying4 _), trodAll_below laid bel (by kernel_rfl) hB hlt, rfl, bel.frame _, fun h => by cases h⟩
set_option maxRecDepth 100000 in
theorem ioe : Try.prog.initOrder = String.ofList (List.map Char.ofNat [104, 97, 114, 110, 101, 115, 115, 32, 50, 50, 56, 97, 48, 100, 56, 48, 49, 102, 49, 53, 48, 98, 57, 99, 54, 51, 48, 50, 52, 52, 101, 97, 50, 49, 48, 49, 100, 49, 51, 55, 101, 98, 100, 97, 50, 55, 97, 97, 49, 50, 101, 97, 102, 55, 50, 53, 50, 100, 54, 101, 48, 102, 101, 53, 50, 101, 101, 51, 98, 52, 53, 98, 32, 99, 117, 116, 32, 97, 116, 32, 108, 111, 111, 112, 46, 101, 120, 97, 109, 112, 108, 101, 47, 119, 104, 97, 114, 102, 100, 101, 115, 107, 47, 108, 97, 119, 115, 46, 70, 110, 69, 120, 97, 99, 116, 71, 97, 116, 101, 77, 101, 110, 100, 115, 79, 107]) := by kernel_rfl
set_option maxRecDepth 100000 in
theorem io : Try.prog.initOrder.toList = List.map Char.ofNat [104, 97, 114, 110, 101, 115, 115, 32, 50, 50, 56, 97, 48, 100, 56, 48, 49, 102, 49, 53, 48, 98, 57, 99, 54, 51, 48, 50, 52, 52, 101, 97, 50, 49, 48, 49, 100, 49, 51, 55, 101, 98, 100, 97, 50, 55, 97, 97, 49, 50, 101, 97, 102, 55, 50, 53, 50, 100, 54, 101, 48, 102, 101, 53, 50, 101, 101, 51, 98, 52, 53, 98, 32, 99, 117, 116, 32, 97, 116, 32, 108, 111, 111, 112, 46, 101, 120, 97, 109, 112, 108, 101, 47, 119, 104, 97, 114, 102, 100, 101, 115, 107, 47, 108, 97, 119, 115, 46, 70, 110, 69, 120, 97, 99, 116, 71, 97, 116, 101, 77, 101, 110, 100, 115, 79, 107] := by rw [ioe, String.toList_ofList]
set_option maxRecDepth 100000 in
theorem hd : Try.prog.mayEnter = true ∧ Try.prog.liftsFinal = false ∧ Try.prog.make = some .cut :=
  Go.Ab.head_of io (by kernel_rfl) (by kernel_rfl) (by kernel_rfl) (by kernel_rfl) (by kernel_rfl)
theorem jf : joinedFacts Try.prog 3 Try.f3 Rows.fnExactGateMendsOkSpec Rows.fnExactGateMendsOkRow = true := by
  unfold joinedFacts
  rw [hd.1, hd.2.1, hd.2.2]
  kernel_rfl
theorem over : Rows.fnExactGateMendsOkRow.holds Try.pinned (OpenSpec.ofChange Rows.fnExactGateMendsOkSpec) :=
  OpenClaim.holds_of_wide 3 Try.f3 rfl rfl rfl rfl rfl rfl rfl ⟨rfl, rfl, rfl, rfl, rfl⟩ rfl rfl rfl rfl rfl (by kernel_rfl) Try.func3 jf
    (of_decide_eq_true (by kernel_rfl)) (by unfold Func.isWrapper; first | (rw [if_pos (by decide +kernel)]; kernel_rfl) | (rw [if_neg (by decide +kernel)]; exact ⟨rfl, rfl⟩))
    (fun os started H enc _ => lifted os started H enc)
end Go.Proofs.Ytcjchimenfadkaa.RGateMendsOk
namespace Go.Proofs.Ytcjchimenfadkaa
theorem fnExactGateMendsOk_holds : Rows.FnExactGateMendsOkSaid := RGateMendsOk.over
end Go.Proofs.Ytcjchimenfadkaa
