/- The program's FnGateCovers answers as the reference's: the statement. Conditions: none. -/
import Derived.Test.YtcjchimenfadkaaDoorLFnGateCovers
import Derived.Test.YtcjchimenfadkaaDoorAb3
import Derived.JoinedOf
import Derived.Test.YtcjchimenfadkaaDoorTie
import Derived.Test.YtcjchimenfadkaaDoorCards
import Derived.Lay
import Derived.LaidMore
import Derived.SevenTiedAt
import Derived.ProofKit
import Derived.LaidSub
import Derived.LaidHandle
import Derived.OpenShut
set_option linter.unusedSimpArgs false
set_option linter.unusedVariables false
set_option linter.defProp false
open Go Go.Ab
namespace Go.Proofs.YtcjchimenfadkaaDoor.RFnGateCovers
open Go.ChangeShapes Go.WideShapes Go.ChangeAt Go.RowKit
open Go.Proofs.YtcjchimenfadkaaDoor.W

theorem own : ownKnob Tryd.prog.godebug = none := by kernel_rfl
theorem laid : laidOutB Tryd.prog = true := by kernel_rfl
theorem powVar {W : World} (h : laidMetH Tryd.prog Rows.fnGateCoversRow.laid W) : W.var? Tryd.prog "internal/strconv.uint64pow10" = some pow10C := by
  rw [MakeChecks.laidMetH_plain _ _ _ (by kernel_rfl)] at h
  have h2 := h.filter (fun x => x.1 == "internal/strconv.uint64pow10")
  rw [show Rows.fnGateCoversRow.laid.filter (fun x => x.1 == "internal/strconv.uint64pow10") = [("internal/strconv.uint64pow10", Lib.tabData .u64 Lib.pow10Tab)] by kernel_rfl] at h2
  exact Lib.tabIs_of_head (g := 1) (t := 220) (e := 214) (n := 20) (by kernel_rfl) (by kernel_rfl) (by kernel_rfl) (by kernel_rfl) (by kernel_rfl) (by kernel_rfl) h2
set_option maxRecDepth 100000 in
theorem lifted (os : Os) (started : os.Started) (H : Type) (enc : TypeId × Value → H) :
    ReturnsInHanded {} Tryd.checked os 6 .any (fun w args => (Rows.fnGateCoversSpec.pre enc Tryd.prog Tryd.f6 Rows.fnGateCoversRow.domain false w args ∧ laidMetH Tryd.prog Rows.fnGateCoversRow.laid w) ∧ sizedMet enc Tryd.prog Tryd.f6 (OpenSpec.ofChange Rows.fnGateCoversSpec) false w args)
      (Rows.fnGateCoversSpec.post enc Tryd.prog Tryd.f6 false true false false) := by
  refine returnsInHanded_of_change_and (C := Tryd.checked) (X := fun w _ => laidMetH Tryd.prog Rows.fnGateCoversRow.laid w) (fun _ _ _ hh h => h.of_heap hh) own started (by kernel_rfl) Tryd.func6
    (ChangeSpec.witness_shaped (enc := enc) (C := Tryd.checked) (os := os) (X := fun w _ => laidMetH Tryd.prog Rows.fnGateCoversRow.laid w) false (World.laidAll Tryd.prog os Rows.fnGateCoversRow.laid) #[.slice none 0 0, .slice none 0 0] 8 (World.laidAll_os _ _ _)
      (World.shaped_of_ZipB (by kernel_rfl) (by kernel_rfl)) (by kernel_rfl) (by kernel_rfl) (by kernel_rfl)
      (by rw [MakeChecks.laidMetH_plain _ _ _ (by kernel_rfl)]; exact laidMet_laidAll _ (by kernel_rfl) (by kernel_rfl))) ?_
  intro W base args ds gs before hval0 hW hcnd hsz0 hlaid _
  have hW' := hW
  obtain ⟨p, q, hA0, hV, rfl, hfz, hnd⟩ := hW
  have hA : DataW.TrodAll enc Tryd.prog W 0 (fun _ => true) true Tryd.f6.params.toList args.toList ds p := hA0
  have hval : ∀ (j : Nat) t v, Tryd.f6.params[j]? = some t → args[j]? = some v → Value.okWide Tryd.prog W .any base t v := hval0
  have hB := hA
  rw [Tryd.params6] at hA hval
  obtain ⟨v0, vs0, d0, ds0, p0, q0, hargs, rfl, rfl, k0, r0⟩ := trodAll_cons hA
  obtain ⟨v1, vs1, d1, ds1, p1, q1, rfl, rfl, rfl, k1, r1⟩ := trodAll_cons r0
  obtain ⟨rfl, rfl, rfl⟩ := trodAll_nil r1
  obtain rfl : args = #[v0, v1] := by cases args; simp_all
  obtain ⟨rfl, rfl⟩ := trodVars_none hV
  have hlt : ∀ x ∈ p0 ++ (p1 ++ ([] : List MemPlace)), x.block < W.heap.size := fun x hx => by simpa using hW'.lt x (by simpa using hx)
  obtain ⟨ad0, ln0, cp0, hv0⟩ := okWide_slice Tryd.underlying62 (hval 0 62 v0 rfl rfl)
  obtain ⟨y0, his0, e0⟩ := open_one (m := 8) (by rw [hv0]; rfl) (by kernel_rfl : shOf Tryd.prog 8 62 = some [.sl 1 [.int .u8]]) k0
  obtain ⟨x0, rfl⟩ := of_bytes his0
  obtain ⟨ad1, ln1, cp1, hv1⟩ := okWide_slice Tryd.underlying62 (hval 1 62 v1 rfl rfl)
  obtain ⟨y1, his1, e1⟩ := open_one (m := 8) (by rw [hv1]; rfl) (by kernel_rfl : shOf Tryd.prog 8 62 = some [.sl 1 [.int .u8]]) k1
  obtain ⟨x1, rfl⟩ := of_bytes his1
  clear hA0 hval0 hsz0
  obtain ⟨gcs, hgcs⟩ : ∃ c, c = pow10C := ⟨_, rfl⟩
  obtain ⟨gb, gty, gfr, hgn, hgh⟩ := var_heap (powVar hlaid)
  rw [← hgcs] at hgh
  refine (calls_lawG (G := [.glob gb (.cells gcs gty gfr)]) (fun o ho => ⟨gb, _, by simpa using ho, hgh⟩) (by intro u hu; simp only [List.mem_cons, List.not_mem_nil, or_false] at hu; rcases hu with rfl | rfl; exact .inl ⟨_, rfl⟩; exact .inl ⟨_, rfl⟩) (Go.Proofs.YtcjchimenfadkaaDoor.W.lawFnGateCovers x0 x1  [.glob gb (.cells gcs gty gfr)] ⟨0, gb, gty, gfr, hgn, by rw [← hgcs]; rfl⟩) (show VsRel (Cx.start W) [_, _] [v0, v1] by simp only [VsRel]; exact ⟨v0, _, rfl, e0, v1, _, rfl, e1, rfl⟩)).mono fun e W' ⟨he, bel⟩ => ?_
  subst he
  exact ⟨_, rfl, _, _, _, [], _, [], hW', trodAll_mk1 (shut_bool Tryd.underlying4 _), trodAll_below laid bel (by kernel_rfl) hB hlt, rfl, bel.frame _, fun h => by cases h⟩
set_option maxRecDepth 100000 in
theorem ioe : Tryd.prog.initOrder = String.ofList (List.map Char.ofNat [104, 97, 114, 110, 101, 115, 115, 32, 100, 48, 49, 55, 50, 101, 99, 97, 51, 50, 56, 97, 50, 52, 54, 97, 54, 49, 56, 99, 52, 51, 48, 49, 99, 52, 100, 101, 102, 56, 53, 100, 57, 52, 50, 100, 48, 55, 57, 50, 101, 97, 51, 56, 99, 50, 52, 101, 97, 53, 98, 57, 50, 57, 101, 102, 55, 102, 98, 48, 54, 51, 56, 48, 32, 99, 117, 116, 32, 97, 116, 32, 108, 111, 111, 112, 46, 101, 120, 97, 109, 112, 108, 101, 47, 119, 104, 97, 114, 102, 100, 101, 115, 107, 47, 108, 97, 119, 115, 46, 70, 110, 69, 120, 97, 99, 116, 71, 97, 116, 101, 85, 110, 99, 111, 118, 101, 114, 101, 100, 32, 108, 111, 111, 112, 46, 101, 120, 97, 109, 112, 108, 101, 47, 119, 104, 97, 114, 102, 100, 101, 115, 107, 47, 108, 97, 119, 115, 46, 70, 110, 69, 120, 97, 99, 116, 71, 97, 116, 101, 67, 104, 101, 99, 107, 32, 108, 111, 111, 112, 46, 101, 120, 97, 109, 112, 108, 101, 47, 119, 104, 97, 114, 102, 100, 101, 115, 107, 47, 108, 97, 119, 115, 46, 70, 110, 69, 120, 97, 99, 116, 71, 97, 116, 101, 84, 117, 114, 110, 101, 100, 32, 108, 111, 111, 112, 46, 101, 120, 97, 109, 112, 108, 101, 47, 119, 104, 97, 114, 102, 100, 101, 115, 107, 47, 108, 97, 119, 115, 46, 70, 110, 71, 97, 116, 101, 67, 111, 118, 101, 114, 115]) := by kernel_rfl
set_option maxRecDepth 100000 in
theorem io : Tryd.prog.initOrder.toList = List.map Char.ofNat [104, 97, 114, 110, 101, 115, 115, 32, 100, 48, 49, 55, 50, 101, 99, 97, 51, 50, 56, 97, 50, 52, 54, 97, 54, 49, 56, 99, 52, 51, 48, 49, 99, 52, 100, 101, 102, 56, 53, 100, 57, 52, 50, 100, 48, 55, 57, 50, 101, 97, 51, 56, 99, 50, 52, 101, 97, 53, 98, 57, 50, 57, 101, 102, 55, 102, 98, 48, 54, 51, 56, 48, 32, 99, 117, 116, 32, 97, 116, 32, 108, 111, 111, 112, 46, 101, 120, 97, 109, 112, 108, 101, 47, 119, 104, 97, 114, 102, 100, 101, 115, 107, 47, 108, 97, 119, 115, 46, 70, 110, 69, 120, 97, 99, 116, 71, 97, 116, 101, 85, 110, 99, 111, 118, 101, 114, 101, 100, 32, 108, 111, 111, 112, 46, 101, 120, 97, 109, 112, 108, 101, 47, 119, 104, 97, 114, 102, 100, 101, 115, 107, 47, 108, 97, 119, 115, 46, 70, 110, 69, 120, 97, 99, 116, 71, 97, 116, 101, 67, 104, 101, 99, 107, 32, 108, 111, 111, 112, 46, 101, 120, 97, 109, 112, 108, 101, 47, 119, 104, 97, 114, 102, 100, 101, 115, 107, 47, 108, 97, 119, 115, 46, 70, 110, 69, 120, 97, 99, 116, 71, 97, 116, 101, 84, 117, 114, 110, 101, 100, 32, 108, 111, 111, 112, 46, 101, 120, 97, 109, 112, 108, 101, 47, 119, 104, 97, 114, 102, 100, 101, 115, 107, 47, 108, 97, 119, 115, 46, 70, 110, 71, 97, 116, 101, 67, 111, 118, 101, 114, 115] := by rw [ioe, String.toList_ofList]
set_option maxRecDepth 100000 in
theorem hd : Tryd.prog.mayEnter = true ∧ Tryd.prog.liftsFinal = false ∧ Tryd.prog.make = some .cut :=
  Go.Ab.head_of io (by kernel_rfl) (by kernel_rfl) (by kernel_rfl) (by kernel_rfl) (by kernel_rfl)
theorem jf : joinedFacts Tryd.prog 6 Tryd.f6 Rows.fnGateCoversSpec Rows.fnGateCoversRow = true := by
  unfold joinedFacts
  rw [hd.1, hd.2.1, hd.2.2]
  kernel_rfl
theorem over : Rows.fnGateCoversRow.holds Tryd.pinned (OpenSpec.ofChange Rows.fnGateCoversSpec) :=
  OpenClaim.holds_of_wide 6 Tryd.f6 rfl rfl rfl rfl rfl rfl rfl ⟨rfl, rfl, rfl, rfl, rfl⟩ rfl rfl rfl rfl rfl (by kernel_rfl) Tryd.func6 jf
    (of_decide_eq_true (by kernel_rfl)) (by unfold Func.isWrapper; first | (rw [if_pos (by decide +kernel)]; kernel_rfl) | (rw [if_neg (by decide +kernel)]; exact ⟨rfl, rfl⟩))
    (fun os started H enc _ => lifted os started H enc)
end Go.Proofs.YtcjchimenfadkaaDoor.RFnGateCovers
namespace Go.Proofs.YtcjchimenfadkaaDoor
theorem fnGateCovers_holds : Rows.FnGateCoversCardSaid :=
  Claim7.holds_tied_plain_at .later [] [.data, .data, .data] true (true, "d0172eca328a246a618c4301c4def85d942d0792ea38c24ea5b929ef7fb06380") true RFnGateCovers.over (fun _ h => by cases h) (by kernel_rfl) (fun _ h => by cases h) fnGateCovers_row_tie rfl ⟨rfl, rfl⟩ (by kernel_rfl) rfl
    (fun f fn hf hfn => by
      obtain rfl : f = 6 := Option.some.inj ((show Tryd.prog.funcNamed "loop.example/wharfdesk/laws.FnGateCovers" = some 6 by kernel_rfl).symm.trans hf) |>.symm
      obtain rfl : fn = Tryd.f6 := (Option.some.inj (Tryd.func6.symm.trans hfn)).symm
      exact ⟨by kernel_rfl, fun j t ht => by
        rw [Tryd.params6] at ht
        have hm : t ∈ [62, 62] := by simpa using Array.mem_of_getElem? ht
        have hall : ([62, 62].all fun u => !Tryd.prog.wantsStandIn u) = true := by kernel_rfl
        exact (show Tryd.prog.wantsStandIn t = false by simpa using List.all_eq_true.1 hall t hm)⟩)
    (by kernel_rfl)
end Go.Proofs.YtcjchimenfadkaaDoor
