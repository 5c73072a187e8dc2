/- The program's GateAllows answers as the reference's: the statement. Conditions: none. -/
import Derived.Test.YtgdmgoidfglobaaLGateAllows
import Derived.Test.YtgdmgoidfglobaaAb3
import Derived.JoinedOf
import Derived.Test.YtgdmgoidfglobaaRows
set_option linter.unusedSimpArgs false
set_option linter.unusedVariables false
set_option linter.defProp false
open Go Go.Ab
namespace Go.Proofs.Ytgdmgoidfglobaa.RGateAllows
open Go.ChangeShapes Go.WideShapes Go.ChangeAt Go.RowKit
open Go.Proofs.Ytgdmgoidfglobaa.W

theorem own : ownKnob Try.prog.godebug = none := by kernel_rfl
theorem laid : laidOutB Try.prog = true := by kernel_rfl
set_option maxRecDepth 100000 in
theorem lifted (os : Os) (started : os.Started) (H : Type) (enc : TypeId × Value → H) :
    ReturnsInHanded {} Try.checked os 7 .any (Rows.fnExactGateAllowsSpec.pre6 enc Try.prog Try.f7 Rows.fnExactGateAllowsRow.domain false) (Rows.fnExactGateAllowsSpec.post enc Try.prog Try.f7 false true false false) := by
  refine returnsInHanded_of_change_sized (C := Try.checked) own started (by kernel_rfl) Try.func7
    (ChangeSpec.witness6 (enc := enc) (C := Try.checked) false ⟨#[], #[.slice none 0 0, .agg #[.slice none 0 0, .string .empty, .string .empty, .string .empty], .agg #[.int .i64 0, .string .empty, .string .empty, .string .empty]], []⟩ 8 (by kernel_rfl) (by kernel_rfl) (by kernel_rfl) (by kernel_rfl)) ?_
  intro W base args ds gs before hval0 hW hcnd hsz0 _
  have hW' := hW
  obtain ⟨p, q, hA0, hV, rfl, hfz, hnd⟩ := hW
  have hA : DataW.TrodAll enc Try.prog W 0 (fun _ => true) true Try.f7.params.toList args.toList ds p := hA0
  have hval : ∀ (j : Nat) t v, Try.f7.params[j]? = some t → args[j]? = some v → Value.okWide Try.prog W .any base t v := hval0
  have hB := hA
  rw [Try.params7] at hA hval
  obtain ⟨v0, vs0, d0, ds0, p0, q0, hargs, rfl, rfl, k0, r0⟩ := trodAll_cons hA
  obtain ⟨v1, vs1, d1, ds1, p1, q1, rfl, rfl, rfl, k1, r1⟩ := trodAll_cons r0
  obtain ⟨v2, vs2, d2, ds2, p2, q2, rfl, rfl, rfl, k2, r2⟩ := trodAll_cons r1
  obtain ⟨rfl, rfl, rfl⟩ := trodAll_nil r2
  obtain rfl : args = #[v0, v1, v2] := by cases args; simp_all
  obtain ⟨rfl, rfl⟩ := trodVars_none hV
  have hlt : ∀ x ∈ p0 ++ (p1 ++ (p2 ++ ([] : List MemPlace))), x.block < W.heap.size := fun x hx => by simpa using hW'.lt x (by simpa using hx)
  obtain ⟨ad0, ln0, cp0, hv0⟩ := okWide_slice Try.underlying22 (hval 0 22 v0 rfl rfl)
  obtain ⟨y0, his0, e0⟩ := open_one (m := 8) (by rw [hv0]; rfl) (by kernel_rfl : shOf Try.prog 8 22 = some [.sl 2 shGateTeam]) k0
  obtain ⟨x0, rfl, q0⟩ := of_GateTeamS his0
  obtain ⟨ts1, his1, e1⟩ := open_agg (m := 8) (fs := _) Try.underlying70 (by kernel_rfl : shOf Try.prog 8 70 = some shGateRule) (hval 1 70 v1 rfl rfl) k1
  obtain ⟨x1, rfl, q1⟩ := of_GateRule his1
  obtain ⟨ts2, his2, e2⟩ := open_agg (m := 8) (fs := _) Try.underlying72 (by kernel_rfl : shOf Try.prog 8 72 = some shGateAct) (hval 2 72 v2 rfl rfl) k2
  obtain ⟨x2, rfl, q2⟩ := of_GateAct his2
  clear hA0 hval0 hsz0
  refine (calls_law (Go.Proofs.Ytgdmgoidfglobaa.LGateAllows.lawGateAllows x0 x1 x2 his0 q0 his1 q1 his2 q2 []) (show VsRel (Cx.start W) [_, _, _] [v0, v1, v2] by simp only [VsRel]; exact ⟨v0, _, rfl, e0, v1, _, rfl, e1, v2, _, rfl, e2, rfl⟩)).mono fun e W' ⟨he, bel⟩ => ?_
  subst he
  exact ⟨_, rfl, _, _, _, [], _, [], hW', trodAll_mk1 (shut_bool Try.underlying4 _), trodAll_below laid bel (by kernel_rfl) hB hlt, rfl, bel.frame _, fun h => by cases h⟩
set_option maxRecDepth 100000 in
theorem ioe : Try.prog.initOrder = String.ofList (List.map Char.ofNat [104, 97, 114, 110, 101, 115, 115, 32, 102, 49, 55, 98, 99, 55, 52, 57, 101, 48, 100, 100, 51, 53, 53, 102, 52, 48, 51, 50, 49, 97, 52, 99, 99, 52, 52, 52, 99, 50, 51, 51, 100, 51, 101, 97, 57, 54, 52, 98, 48, 54, 57, 102, 97, 97, 55, 100, 57, 99, 101, 53, 101, 54, 100, 52, 49, 56, 51, 53, 55, 100, 98, 99, 32, 99, 117, 116, 32, 97, 116, 32, 108, 111, 111, 112, 46, 101, 120, 97, 109, 112, 108, 101, 47, 119, 104, 97, 114, 102, 100, 101, 115, 107, 47, 108, 97, 119, 115, 46, 70, 110, 69, 120, 97, 99, 116, 71, 97, 116, 101, 85, 110, 100, 101, 114, 32, 108, 111, 111, 112, 46, 101, 120, 97, 109, 112, 108, 101, 47, 119, 104, 97, 114, 102, 100, 101, 115, 107, 47, 108, 97, 119, 115, 46, 70, 110, 69, 120, 97, 99, 116, 71, 97, 116, 101, 84, 101, 97, 109, 115, 79, 107, 32, 108, 111, 111, 112, 46, 101, 120, 97, 109, 112, 108, 101, 47, 119, 104, 97, 114, 102, 100, 101, 115, 107, 47, 108, 97, 119, 115, 46, 70, 110, 69, 120, 97, 99, 116, 71, 97, 116, 101, 85, 115, 101, 100, 32, 108, 111, 111, 112, 46, 101, 120, 97, 109, 112, 108, 101, 47, 119, 104, 97, 114, 102, 100, 101, 115, 107, 47, 108, 97, 119, 115, 46, 70, 110, 69, 120, 97, 99, 116, 71, 97, 116, 101, 70, 105, 116, 115, 32, 108, 111, 111, 112, 46, 101, 120, 97, 109, 112, 108, 101, 47, 119, 104, 97, 114, 102, 100, 101, 115, 107, 47, 108, 97, 119, 115, 46, 70, 110, 69, 120, 97, 99, 116, 71, 97, 116, 101, 65, 108, 108, 111, 119, 115, 32, 108, 111, 111, 112, 46, 101, 120, 97, 109, 112, 108, 101, 47, 119, 104, 97, 114, 102, 100, 101, 115, 107, 47, 108, 97, 119, 115, 46, 70, 110, 69, 120, 97, 99, 116, 71, 97, 116, 101, 67, 111, 118, 101, 114, 115, 32, 108, 111, 111, 112, 46, 101, 120, 97, 109, 112, 108, 101, 47, 119, 104, 97, 114, 102, 100, 101, 115, 107, 47, 108, 97, 119, 115, 46, 70, 110, 69, 120, 97, 99, 116, 71, 97, 116, 101, 87, 101, 105, 103, 104, 115, 32, 108, 111, 111, 112, 46, 101, 120, 97, 109, 112, 108, 101, 47, 119, 104, 97, 114, 102, 100, 101, 115, 107, 47, 108, 97, 119, 115, 46, 70, 110, 69, 120, 97, 99, 116, 71, 97, 116, 101, 83, 104, 97, 112, 101, 115, 79, 107, 32, 108, 111, 111, 112, 46, 101, 120, 97, 109, 112, 108, 101, 47, 119, 104, 97, 114, 102, 100, 101, 115, 107, 47, 108, 97, 119, 115, 46, 70, 110, 69, 120, 97, 99, 116, 71, 97, 116, 101, 70, 105, 108, 108, 32, 108, 111, 111, 112, 46, 101, 120, 97, 109, 112, 108, 101, 47, 119, 104, 97, 114, 102, 100, 101, 115, 107, 47, 108, 97, 119, 115, 46, 70, 110, 69, 120, 97, 99, 116, 71, 97, 116, 101, 77, 101, 110, 100, 115, 79, 107]) := by kernel_rfl
set_option maxRecDepth 100000 in
theorem io : Try.prog.initOrder.toList = List.map Char.ofNat [104, 97, 114, 110, 101, 115, 115, 32, 102, 49, 55, 98, 99, 55, 52, 57, 101, 48, 100, 100, 51, 53, 53, 102, 52, 48, 51, 50, 49, 97, 52, 99, 99, 52, 52, 52, 99, 50, 51, 51, 100, 51, 101, 97, 57, 54, 52, 98, 48, 54, 57, 102, 97, 97, 55, 100, 57, 99, 101, 53, 101, 54, 100, 52, 49, 56, 51, 53, 55, 100, 98, 99, 32, 99, 117, 116, 32, 97, 116, 32, 108, 111, 111, 112, 46, 101, 120, 97, 109, 112, 108, 101, 47, 119, 104, 97, 114, 102, 100, 101, 115, 107, 47, 108, 97, 119, 115, 46, 70, 110, 69, 120, 97, 99, 116, 71, 97, 116, 101, 85, 110, 100, 101, 114, 32, 108, 111, 111, 112, 46, 101, 120, 97, 109, 112, 108, 101, 47, 119, 104, 97, 114, 102, 100, 101, 115, 107, 47, 108, 97, 119, 115, 46, 70, 110, 69, 120, 97, 99, 116, 71, 97, 116, 101, 84, 101, 97, 109, 115, 79, 107, 32, 108, 111, 111, 112, 46, 101, 120, 97, 109, 112, 108, 101, 47, 119, 104, 97, 114, 102, 100, 101, 115, 107, 47, 108, 97, 119, 115, 46, 70, 110, 69, 120, 97, 99, 116, 71, 97, 116, 101, 85, 115, 101, 100, 32, 108, 111, 111, 112, 46, 101, 120, 97, 109, 112, 108, 101, 47, 119, 104, 97, 114, 102, 100, 101, 115, 107, 47, 108, 97, 119, 115, 46, 70, 110, 69, 120, 97, 99, 116, 71, 97, 116, 101, 70, 105, 116, 115, 32, 108, 111, 111, 112, 46, 101, 120, 97, 109, 112, 108, 101, 47, 119, 104, 97, 114, 102, 100, 101, 115, 107, 47, 108, 97, 119, 115, 46, 70, 110, 69, 120, 97, 99, 116, 71, 97, 116, 101, 65, 108, 108, 111, 119, 115, 32, 108, 111, 111, 112, 46, 101, 120, 97, 109, 112, 108, 101, 47, 119, 104, 97, 114, 102, 100, 101, 115, 107, 47, 108, 97, 119, 115, 46, 70, 110, 69, 120, 97, 99, 116, 71, 97, 116, 101, 67, 111, 118, 101, 114, 115, 32, 108, 111, 111, 112, 46, 101, 120, 97, 109, 112, 108, 101, 47, 119, 104, 97, 114, 102, 100, 101, 115, 107, 47, 108, 97, 119, 115, 46, 70, 110, 69, 120, 97, 99, 116, 71, 97, 116, 101, 87, 101, 105, 103, 104, 115, 32, 108, 111, 111, 112, 46, 101, 120, 97, 109, 112, 108, 101, 47, 119, 104, 97, 114, 102, 100, 101, 115, 107, 47, 108, 97, 119, 115, 46, 70, 110, 69, 120, 97, 99, 116, 71, 97, 116, 101, 83, 104, 97, 112, 101, 115, 79, 107, 32, 108, 111, 111, 112, 46, 101, 120, 97, 109, 112, 108, 101, 47, 119, 104, 97, 114, 102, 100, 101, 115, 107, 47, 108, 97, 119, 115, 46, 70, 110, 69, 120, 97, 99, 116, 71, 97, 116, 101, 70, 105, 108, 108, 32, 108, 111, 111, 112, 46, 101, 120, 97, 109, 112, 108, 101, 47, 119, 104, 97, 114, 102, 100, 101, 115, 107, 47, 108, 97, 119, 115, 46, 70, 110, 69, 120, 97, 99, 116, 71, 97, 116, 101, 77, 101, 110, 100, 115, 79, 107] := by rw [ioe, String.toList_ofList]
set_option maxRecDepth 100000 in
theorem hd : Try.prog.mayEnter = true ∧ Try.prog.liftsFinal = false ∧ Try.prog.make = some .cut :=
  Go.Ab.head_of io (by kernel_rfl) (by kernel_rfl) (by kernel_rfl) (by kernel_rfl) (by kernel_rfl)
theorem jf : joinedFacts Try.prog 7 Try.f7 Rows.fnExactGateAllowsSpec Rows.fnExactGateAllowsRow = true := by
  unfold joinedFacts
  rw [hd.1, hd.2.1, hd.2.2]
  kernel_rfl
theorem over : Rows.fnExactGateAllowsRow.holds Try.pinned (OpenSpec.ofChange Rows.fnExactGateAllowsSpec) :=
  OpenClaim.holds_of_wide 7 Try.f7 rfl rfl rfl rfl rfl rfl rfl ⟨rfl, rfl, rfl, rfl, rfl⟩ rfl rfl rfl rfl rfl (by kernel_rfl) Try.func7 jf
    (of_decide_eq_true (by kernel_rfl)) (by unfold Func.isWrapper; first | (rw [if_pos (by decide +kernel)]; kernel_rfl) | (rw [if_neg (by decide +kernel)]; exact ⟨rfl, rfl⟩))
    (fun os started H enc _ => lifted os started H enc)
end Go.Proofs.Ytgdmgoidfglobaa.RGateAllows
namespace Go.Proofs.Ytgdmgoidfglobaa
theorem fnExactGateAllows_holds : Rows.FnExactGateAllowsSaid := RGateAllows.over
end Go.Proofs.Ytgdmgoidfglobaa
