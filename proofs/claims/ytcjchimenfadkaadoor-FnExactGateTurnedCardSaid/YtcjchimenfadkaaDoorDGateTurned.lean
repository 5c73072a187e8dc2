/- The program's GateTurned answers as the reference's: the statement. Conditions: none. -/
import Derived.Test.YtcjchimenfadkaaDoorLGateTurned
import Derived.Test.YtcjchimenfadkaaDoorAb3
import Derived.JoinedOf
import Derived.Test.YtcjchimenfadkaaDoorTie
import Derived.Test.YtcjchimenfadkaaDoorCards
import Derived.Lay
import Derived.LaidMore
import Derived.SevenTiedAt
import Derived.ProofKit
import Derived.ChangeSame
import Derived.ChangeVars
import Derived.LaidLaws
import Derived.LaidHandle
import Derived.Stop.Joined
import Derived.OpenShut
set_option linter.unusedSimpArgs false
set_option linter.unusedVariables false
set_option linter.defProp false
open Go Go.Ab
namespace Go.Proofs.YtcjchimenfadkaaDoor.RGateTurned
open Go.ChangeShapes Go.WideShapes Go.ChangeAt Go.RowKit
open Go.Proofs.YtcjchimenfadkaaDoor.W

theorem own : ownKnob Tryd.prog.godebug = none := by kernel_rfl
theorem laid : laidOutB Tryd.prog = true := by kernel_rfl
theorem err_et : Tryd.prog.globalNamed "errors.errorType" = some 0 := by kernel_rfl
theorem err_rt : (Tryd.prog.cutTypes.find? (·.1 == "internal/reflectlite.rtype")).map (·.2) = some 194 := by kernel_rfl
theorem err_size : Tryd.prog.types.size = 260 := by kernel_rfl
theorem err_row : ((List.range 260).filter fun t => Tryd.prog.rowNamed t [101, 114, 114, 111, 114]) = [99] := by kernel_rfl
theorem errVar {W : World} (h : laidMetH Tryd.prog Rows.fnExactGateTurnedRow.laid W) : W.var? Tryd.prog "errors.errorType" = some errC := by
  have h' : laidMet Tryd.prog [] W ∧ handlesMet Tryd.prog Rows.fnExactGateTurnedRow.laid W := h
  obtain ⟨name, u, ty, e1, e2, e3, e4, e5⟩ := h'.2 _ (List.mem_singleton.2 rfl)
  have en : name = [101, 114, 114, 111, 114] := (Option.some.inj e1).symm
  subst en
  obtain rfl := Option.some.inj (err_rt.symm.trans e2)
  have hm : ty ∈ (List.range 260).filter fun t => Tryd.prog.rowNamed t [101, 114, 114, 111, 114] := List.mem_filter.2 ⟨List.mem_range.2 (by rw [← err_size]; exact e3), e4⟩
  rw [err_row] at hm
  obtain rfl := List.mem_singleton.1 hm
  have hh : typeHandle Tryd.prog 99 = .pointer (some ⟨4, 99, none⟩) := by kernel_rfl
  rw [hh] at e5
  exact e5
noncomputable def laidW (os : Os) : World :=
  let w0 := World.holding Tryd.prog os ⟨#[], #[], []⟩
  { w0 with heap := w0.heap.modify 0 fun
      | .cells _ t frozen => .cells errC t frozen
      | o => o }
theorem laidW_met (os : Os) (args : Array Value) : laidMetH Tryd.prog Rows.fnExactGateTurnedRow.laid ((laidW os).forCall (fun _ _ => 0) ⟨#[], args, []⟩).memory :=
  laidMetH_of_parts (laidMet_nil _ _) (by kernel_rfl)
set_option maxRecDepth 100000 in
theorem lifted (os : Os) (started : os.Started) (H : Type) (enc : TypeId × Value → H) :
    ReturnsInHanded {} Tryd.checked os 5 .any (fun w args => (Rows.fnExactGateTurnedSpec.pre enc Tryd.prog Tryd.f5 Rows.fnExactGateTurnedRow.domain false w args ∧ laidMetH Tryd.prog Rows.fnExactGateTurnedRow.laid w) ∧ sizedMet enc Tryd.prog Tryd.f5 (OpenSpec.ofChange Rows.fnExactGateTurnedSpec) false w args)
      (Rows.fnExactGateTurnedSpec.post enc Tryd.prog Tryd.f5 false true false false) := by
  refine returnsInHanded_of_change_and (C := Tryd.checked) (X := fun w _ => laidMetH Tryd.prog Rows.fnExactGateTurnedRow.laid w) (fun _ _ _ hh h => h.of_heap hh) own started (by kernel_rfl) Tryd.func5
    (ChangeSpec.witness_at (enc := enc) (C := Tryd.checked) (os := os) (X := fun w _ => laidMetH Tryd.prog Rows.fnExactGateTurnedRow.laid w) false (laidW os) #[.slice none 0 0, .agg #[.string .empty, .string .empty, .string .empty, .slice none 0 0, .bool false, .slice none 0 0, .int .i64 0], .agg #[.string .empty, .string .empty, .string .empty, .slice none 0 0, .bool false, .slice none 0 0, .int .i64 0]] 8 rfl (by kernel_rfl) (by kernel_rfl) (by kernel_rfl) (by kernel_rfl) (by kernel_rfl) (laidW_met os _)) ?_
  intro W base args ds gs before hval0 hW hcnd hsz0 hlaid _
  have hW' := hW
  obtain ⟨p, q, hA0, hV, rfl, hfz, hnd⟩ := hW
  have hA : DataW.TrodAll enc Tryd.prog W 0 (fun _ => true) true Tryd.f5.params.toList args.toList ds p := hA0
  have hval : ∀ (j : Nat) t v, Tryd.f5.params[j]? = some t → args[j]? = some v → Value.okWide Tryd.prog W .any base t v := hval0
  have hB := hA
  rw [Tryd.params5] at hA hval
  obtain ⟨v0, vs0, d0, ds0, p0, q0, hargs, rfl, rfl, k0, r0⟩ := trodAll_cons hA
  obtain ⟨v1, vs1, d1, ds1, p1, q1, rfl, rfl, rfl, k1, r1⟩ := trodAll_cons r0
  obtain ⟨v2, vs2, d2, ds2, p2, q2, rfl, rfl, rfl, k2, r2⟩ := trodAll_cons r1
  obtain ⟨rfl, rfl, rfl⟩ := trodAll_nil r2
  obtain rfl : args = #[v0, v1, v2] := by cases args; simp_all
  obtain ⟨rfl, rfl⟩ := trodVars_none hV
  have hlt : ∀ x ∈ p0 ++ (p1 ++ (p2 ++ ([] : List MemPlace))), x.block < W.heap.size := fun x hx => by simpa using hW'.lt x (by simpa using hx)
  obtain ⟨ad0, ln0, cp0, hv0⟩ := okWide_slice Tryd.underlying45 (hval 0 45 v0 rfl rfl)
  obtain ⟨y0, his0, e0⟩ := open_one (m := 8) (by rw [hv0]; rfl) (by kernel_rfl : shOf Tryd.prog 8 45 = some [.sl 2 shGateShape]) k0
  obtain ⟨x0, rfl, q0⟩ := of_GateShapeS his0
  obtain ⟨ts1, his1, e1⟩ := open_agg (m := 8) (fs := _) Tryd.underlying48 (by kernel_rfl : shOf Tryd.prog 8 48 = some shGateObject) (hval 1 48 v1 rfl rfl) k1
  obtain ⟨x1, rfl, q1⟩ := of_GateObject his1
  obtain ⟨ts2, his2, e2⟩ := open_agg (m := 8) (fs := _) Tryd.underlying48 (by kernel_rfl : shOf Tryd.prog 8 48 = some shGateObject) (hval 2 48 v2 rfl rfl) k2
  obtain ⟨x2, rfl, q2⟩ := of_GateObject his2
  clear hA0 hval0 hsz0
  obtain ⟨gcs, hgcs⟩ : ∃ c, c = errC := ⟨_, rfl⟩
  obtain ⟨gb, gty, gfr, hgn, hgh⟩ := var_heap (errVar hlaid)
  rw [← hgcs] at hgh
  refine (calls_lawG (G := [.glob gb (.cells gcs gty gfr)]) (fun o ho => ⟨gb, _, by simpa using ho, hgh⟩) (by intro u hu; simp only [List.mem_cons, List.not_mem_nil, or_false] at hu; rcases hu with rfl | rfl | rfl; exact .inl ⟨_, rfl⟩; exact .inr ⟨x1.ts, rfl⟩; exact .inr ⟨x2.ts, rfl⟩) (Go.Proofs.YtcjchimenfadkaaDoor.LGateTurned.lawGateTurned x0 x1 x2 his0 q0 his1 q1 his2 q2 [.glob gb (.cells gcs gty gfr)] ⟨0, gb, gty, gfr, hgn, by rw [← hgcs]; rfl⟩) (show VsRel (Cx.start W) [_, _, _] [v0, v1, v2] by simp only [VsRel]; exact ⟨v0, _, rfl, e0, v1, _, rfl, e1, v2, _, rfl, e2, rfl⟩)).mono fun e W' ⟨he, bel⟩ => ?_
  subst he
  exact ⟨_, rfl, _, _, _, [], _, [], hW', trodAll_mk1 (shut_bool Tryd.underlying4 _), trodAll_below laid bel (by kernel_rfl) hB hlt, rfl, bel.frame _, fun h => by cases h⟩
set_option maxRecDepth 100000 in
theorem ioe : Tryd.prog.initOrder = String.ofList (List.map Char.ofNat [104, 97, 114, 110, 101, 115, 115, 32, 100, 48, 49, 55, 50, 101, 99, 97, 51, 50, 56, 97, 50, 52, 54, 97, 54, 49, 56, 99, 52, 51, 48, 49, 99, 52, 100, 101, 102, 56, 53, 100, 57, 52, 50, 100, 48, 55, 57, 50, 101, 97, 51, 56, 99, 50, 52, 101, 97, 53, 98, 57, 50, 57, 101, 102, 55, 102, 98, 48, 54, 51, 56, 48, 32, 99, 117, 116, 32, 97, 116, 32, 108, 111, 111, 112, 46, 101, 120, 97, 109, 112, 108, 101, 47, 119, 104, 97, 114, 102, 100, 101, 115, 107, 47, 108, 97, 119, 115, 46, 70, 110, 69, 120, 97, 99, 116, 71, 97, 116, 101, 85, 110, 99, 111, 118, 101, 114, 101, 100, 32, 108, 111, 111, 112, 46, 101, 120, 97, 109, 112, 108, 101, 47, 119, 104, 97, 114, 102, 100, 101, 115, 107, 47, 108, 97, 119, 115, 46, 70, 110, 69, 120, 97, 99, 116, 71, 97, 116, 101, 67, 104, 101, 99, 107, 32, 108, 111, 111, 112, 46, 101, 120, 97, 109, 112, 108, 101, 47, 119, 104, 97, 114, 102, 100, 101, 115, 107, 47, 108, 97, 119, 115, 46, 70, 110, 69, 120, 97, 99, 116, 71, 97, 116, 101, 84, 117, 114, 110, 101, 100, 32, 108, 111, 111, 112, 46, 101, 120, 97, 109, 112, 108, 101, 47, 119, 104, 97, 114, 102, 100, 101, 115, 107, 47, 108, 97, 119, 115, 46, 70, 110, 71, 97, 116, 101, 67, 111, 118, 101, 114, 115]) := by kernel_rfl
set_option maxRecDepth 100000 in
theorem io : Tryd.prog.initOrder.toList = List.map Char.ofNat [104, 97, 114, 110, 101, 115, 115, 32, 100, 48, 49, 55, 50, 101, 99, 97, 51, 50, 56, 97, 50, 52, 54, 97, 54, 49, 56, 99, 52, 51, 48, 49, 99, 52, 100, 101, 102, 56, 53, 100, 57, 52, 50, 100, 48, 55, 57, 50, 101, 97, 51, 56, 99, 50, 52, 101, 97, 53, 98, 57, 50, 57, 101, 102, 55, 102, 98, 48, 54, 51, 56, 48, 32, 99, 117, 116, 32, 97, 116, 32, 108, 111, 111, 112, 46, 101, 120, 97, 109, 112, 108, 101, 47, 119, 104, 97, 114, 102, 100, 101, 115, 107, 47, 108, 97, 119, 115, 46, 70, 110, 69, 120, 97, 99, 116, 71, 97, 116, 101, 85, 110, 99, 111, 118, 101, 114, 101, 100, 32, 108, 111, 111, 112, 46, 101, 120, 97, 109, 112, 108, 101, 47, 119, 104, 97, 114, 102, 100, 101, 115, 107, 47, 108, 97, 119, 115, 46, 70, 110, 69, 120, 97, 99, 116, 71, 97, 116, 101, 67, 104, 101, 99, 107, 32, 108, 111, 111, 112, 46, 101, 120, 97, 109, 112, 108, 101, 47, 119, 104, 97, 114, 102, 100, 101, 115, 107, 47, 108, 97, 119, 115, 46, 70, 110, 69, 120, 97, 99, 116, 71, 97, 116, 101, 84, 117, 114, 110, 101, 100, 32, 108, 111, 111, 112, 46, 101, 120, 97, 109, 112, 108, 101, 47, 119, 104, 97, 114, 102, 100, 101, 115, 107, 47, 108, 97, 119, 115, 46, 70, 110, 71, 97, 116, 101, 67, 111, 118, 101, 114, 115] := by rw [ioe, String.toList_ofList]
set_option maxRecDepth 100000 in
theorem hd : Tryd.prog.mayEnter = true ∧ Tryd.prog.liftsFinal = false ∧ Tryd.prog.make = some .cut :=
  Go.Ab.head_of io (by kernel_rfl) (by kernel_rfl) (by kernel_rfl) (by kernel_rfl) (by kernel_rfl)
theorem jf : joinedFacts Tryd.prog 5 Tryd.f5 Rows.fnExactGateTurnedSpec Rows.fnExactGateTurnedRow = true := by
  unfold joinedFacts
  rw [hd.1, hd.2.1, hd.2.2]
  kernel_rfl
theorem over : Rows.fnExactGateTurnedRow.holds Tryd.pinned (OpenSpec.ofChange Rows.fnExactGateTurnedSpec) :=
  OpenClaim.holds_of_wide 5 Tryd.f5 rfl rfl rfl rfl rfl rfl rfl ⟨rfl, rfl, rfl, rfl, rfl⟩ rfl rfl rfl rfl rfl (by kernel_rfl) Tryd.func5 jf
    (of_decide_eq_true (by kernel_rfl)) (by unfold Func.isWrapper; first | (rw [if_pos (by decide +kernel)]; kernel_rfl) | (rw [if_neg (by decide +kernel)]; exact ⟨rfl, rfl⟩))
    (fun os started H enc _ => lifted os started H enc)
end Go.Proofs.YtcjchimenfadkaaDoor.RGateTurned
namespace Go.Proofs.YtcjchimenfadkaaDoor
theorem fnExactGateTurned_holds : Rows.FnExactGateTurnedCardSaid :=
  Claim7.holds_tied_plain_at .later [] [.handle] true (true, "d0172eca328a246a618c4301c4def85d942d0792ea38c24ea5b929ef7fb06380") true RGateTurned.over (fun _ h => by cases h) (by kernel_rfl) (fun _ h => by cases h) fnExactGateTurned_row_tie rfl ⟨rfl, rfl⟩ (by kernel_rfl) rfl
    (fun f fn hf hfn => by
      obtain rfl : f = 5 := Option.some.inj ((show Tryd.prog.funcNamed "loop.example/wharfdesk/laws.FnExactGateTurned" = some 5 by kernel_rfl).symm.trans hf) |>.symm
      obtain rfl : fn = Tryd.f5 := (Option.some.inj (Tryd.func5.symm.trans hfn)).symm
      exact ⟨by kernel_rfl, fun j t ht => by
        rw [Tryd.params5] at ht
        have hm : t ∈ [45, 48, 48] := by simpa using Array.mem_of_getElem? ht
        have hall : ([45, 48, 48].all fun u => !Tryd.prog.wantsStandIn u) = true := by kernel_rfl
        exact (show Tryd.prog.wantsStandIn t = false by simpa using List.all_eq_true.1 hall t hm)⟩)
    (by kernel_rfl)
end Go.Proofs.YtcjchimenfadkaaDoor
