/- The program's HallService answers as the reference's: the statement. Conditions: none. -/
import Derived.Test.YtelpmllnallilaaDoorLHallService
import Derived.Test.YtelpmllnallilaaDoorAb3
import Derived.JoinedOf
import Derived.Test.YtelpmllnallilaaDoorTie
import Derived.Test.YtelpmllnallilaaDoorCards
import Derived.Lay
import Derived.LaidMore
import Derived.SevenTiedAt
import Derived.ProofKit
import Derived.Stop.LaidErr
import Derived.ChangeReads
import Derived.LaidSub
import Derived.LaidHandle
import Derived.OpenShut
set_option linter.unusedSimpArgs false
set_option linter.unusedVariables false
set_option linter.defProp false
open Go Go.Ab
namespace Go.Proofs.YtelpmllnallilaaDoor.RHallService
open Go.ChangeShapes Go.WideShapes Go.ChangeAt Go.RowKit
open Go.Proofs.YtelpmllnallilaaDoor.W

theorem own : ownKnob Tryd.prog.godebug = none := by kernel_rfl
theorem laid : laidOutB Tryd.prog = true := by kernel_rfl
theorem hwG : Tryd.prog.globalNamed "loop.example/wharfdesk/impl.errHwNumber" = some 0 := by kernel_rfl
theorem hwGT : (Tryd.prog.globals[0]?).map (·.type) = some 41 := by kernel_rfl
theorem hwStar : "*" ++ "errors.errorString" = "*errors.errorString" := by decide
theorem hwRow (u : TypeId) (h : Tryd.prog.typeName? 3 u = some "*errors.errorString") : u = 67 :=
  typeName_ptr_named (nm := "errors.errorString") (by rw [hwStar]; kernel_rfl) (by kernel_rfl) (by decide) u (by rw [hwStar]; exact h)
theorem hwVar {W : World} (h : laidMetH Tryd.prog Rows.fnExactHallServiceRow.laid W) : ∃ (a : Addr) (s : ByteArray), W.var? Tryd.prog "loop.example/wharfdesk/impl.errHwNumber" = some #[.iface 67 (.pointer (some a))] ∧ W.cell? a = some (.string s) ∧ s.data.toList = [97, 32, 110, 117, 109, 98, 101, 114, 32, 116, 104, 97, 116, 32, 105, 115, 32, 110, 111, 110, 101] ∧ s.size ≤ maxLen := by
  rw [MakeChecks.laidMetH_plain _ _ _ (by kernel_rfl)] at h
  have h2 := h.filter (fun x => x.1 == "loop.example/wharfdesk/impl.errHwNumber")
  rw [show Rows.fnExactHallServiceRow.laid.filter (fun x => x.1 == "loop.example/wharfdesk/impl.errHwNumber") = [("loop.example/wharfdesk/impl.errHwNumber", .iface "*errors.errorString" (.ptr (.agg [.lit (.string [97, 32, 110, 117, 109, 98, 101, 114, 32, 116, 104, 97, 116, 32, 105, 115, 32, 110, 111, 110, 101])])))] by kernel_rfl] at h2
  exact laid_sentinel h2 hwG hwGT Tryd.underlying41 hwRow Tryd.underlying67 Tryd.underlying69 rfl rfl Tryd.underlying9 (by kernel_rfl) (by kernel_rfl)
theorem var_below {W W' : World} {n : String} {g : Nat} {cs : Array Value} (hg : Tryd.prog.globalNamed n = some g) (h : W.var? Tryd.prog n = some cs) (bel : Below W.heap.size W W') : W'.var? Tryd.prog n = some cs := by
  have hlt : g < W.heap.size := by
    rcases Nat.lt_or_ge g W.heap.size with h1 | h1
    · exact h1
    · simp [World.var?, hg, Array.getElem?_eq_none h1] at h
  simp only [World.var?, hg, Option.bind_some, bel.block g hlt] at h ⊢
  exact h
set_option maxRecDepth 100000 in
theorem lifted (os : Os) (started : os.Started) (H : Type) (enc : TypeId × Value → H) :
    ReturnsInHanded {} Tryd.checked os 3 .any (fun w args => (Rows.fnExactHallServiceSpec.pre enc Tryd.prog Tryd.f3 Rows.fnExactHallServiceRow.domain false w args ∧ laidMetH Tryd.prog Rows.fnExactHallServiceRow.laid w) ∧ sizedMet enc Tryd.prog Tryd.f3 (OpenSpec.ofChange Rows.fnExactHallServiceSpec) false w args)
      (Rows.fnExactHallServiceSpec.post enc Tryd.prog Tryd.f3 false true false false) := by
  refine returnsInHanded_of_change_and (C := Tryd.checked) (X := fun w _ => laidMetH Tryd.prog Rows.fnExactHallServiceRow.laid w) (fun _ _ _ hh h => h.of_heap hh) own started (by kernel_rfl) Tryd.func3
    (ChangeSpec.witness_shaped (enc := enc) (C := Tryd.checked) (os := os) (X := fun w _ => laidMetH Tryd.prog Rows.fnExactHallServiceRow.laid w) false (World.laidAll Tryd.prog os Rows.fnExactHallServiceRow.laid) #[.agg #[.string .empty, .string .empty, .string .empty, .slice none 0 0, .bool false, .slice none 0 0, .int .i64 0], .agg #[.string .empty, .int .i64 0, .bool false, .int .i64 0, .int .i64 0, .int .i64 0, .int .i64 0, .int .i64 0, .int .i64 0, .int .i64 0, .int .i64 0, .int .i64 0, .int .i64 0]] 8 (World.laidAll_os _ _ _)
      (World.shaped_of_ZipB (by kernel_rfl) (by kernel_rfl)) (by kernel_rfl) (by kernel_rfl) (by kernel_rfl)
      (by rw [MakeChecks.laidMetH_plain _ _ _ (by kernel_rfl)]; exact laidMet_laidAll _ (by kernel_rfl) (by kernel_rfl))) ?_
  intro W base args ds gs before hval0 hW hcnd hsz0 hlaid _
  have hW' := hW
  obtain ⟨p, q, hA0, hV, rfl, hfz, hnd⟩ := hW
  have hA : DataW.TrodAll enc Tryd.prog W 0 (fun _ => true) true Tryd.f3.params.toList args.toList ds p := hA0
  have hval : ∀ (j : Nat) t v, Tryd.f3.params[j]? = some t → args[j]? = some v → Value.okWide Tryd.prog W .any base t v := hval0
  have hB := hA
  rw [Tryd.params3] at hA hval
  obtain ⟨v0, vs0, d0, ds0, p0, q0, hargs, rfl, rfl, k0, r0⟩ := trodAll_cons hA
  obtain ⟨v1, vs1, d1, ds1, p1, q1, rfl, rfl, rfl, k1, r1⟩ := trodAll_cons r0
  obtain ⟨rfl, rfl, rfl⟩ := trodAll_nil r1
  obtain rfl : args = #[v0, v1] := by cases args; simp_all
  obtain ⟨pa, ps, hv0, _, _, _⟩ := hwVar hlaid
  obtain ⟨rfl, rfl⟩ := hV.unique (vars_read1 enc hwG hwGT Tryd.underlying41 hv0 trivial _)
  have hlt : ∀ x ∈ p0 ++ (p1 ++ ([] : List MemPlace)), x.block < W.heap.size := fun x hx => hW'.lt x (by simp at hx ⊢; rcases hx with h | h <;> simp [h])
  obtain ⟨ts0, his0, e0⟩ := open_agg (m := 8) (fs := _) Tryd.underlying24 (by kernel_rfl : shOf Tryd.prog 8 24 = some shGateObject) (hval 0 24 v0 rfl rfl) k0
  obtain ⟨x0, rfl, q0⟩ := of_GateObject his0
  obtain ⟨ts1, his1, e1⟩ := open_agg (m := 8) (fs := _) Tryd.underlying26 (by kernel_rfl : shOf Tryd.prog 8 26 = some shStewService) (hval 1 26 v1 rfl rfl) k1
  obtain ⟨x1, rfl, q1⟩ := of_StewService his1
  clear hA0 hval0 hsz0
  obtain ⟨gcs, hgcs⟩ : ∃ c, c = #[Value.iface 67 (.pointer (some pa))] := ⟨_, rfl⟩
  obtain ⟨gb, gty, gfr, hgn, hgh⟩ := var_heap hv0
  rw [← hgcs] at hgh
  refine (calls_lawG (G := [.glob gb (.cells gcs gty gfr)]) (fun o ho => ⟨gb, _, by simpa using ho, hgh⟩) (by intro u hu; simp only [List.mem_cons, List.not_mem_nil, or_false] at hu; rcases hu with rfl | rfl; exact .inr ⟨x0.ts, rfl⟩; exact .inr ⟨x1.ts, rfl⟩) (Go.Proofs.YtelpmllnallilaaDoor.LHallService.lawHallService x0 x1 his0 q0 his1 q1 (.pointer (some pa)) rfl [.glob gb (.cells gcs gty gfr)] ⟨0, gb, gty, gfr, hgn, by rw [← hgcs]; rfl⟩) (show VsRel (Cx.start W) [_, _] [v0, v1] by simp only [VsRel]; exact ⟨v0, _, rfl, e0, v1, _, rfl, e1, rfl⟩)).mono fun e W' ⟨he, bel⟩ => ?_
  subst he
  exact ⟨_, rfl, _, _, _, _, _, _, hW', trodAll_mk1 (shut_bool Tryd.underlying4 _), trodAll_below laid bel (by kernel_rfl) hB hlt, vars_read1 enc hwG hwGT Tryd.underlying41 (var_below hwG hv0 bel) trivial _, bel.frame _, fun h => by cases h⟩
set_option maxRecDepth 100000 in
theorem ioe : Tryd.prog.initOrder = String.ofList (List.map Char.ofNat [104, 97, 114, 110, 101, 115, 115, 32, 49, 48, 51, 49, 100, 101, 51, 56, 55, 49, 99, 56, 97, 50, 51, 55, 100, 97, 97, 98, 97, 101, 53, 55, 52, 97, 51, 57, 55, 51, 99, 54, 97, 48, 52, 57, 101, 48, 50, 56, 101, 100, 99, 54, 51, 98, 48, 51, 55, 55, 54, 57, 57, 50, 98, 49, 57, 99, 50, 50, 100, 48, 101, 100, 32, 99, 117, 116, 32, 97, 116, 32, 108, 111, 111, 112, 46, 101, 120, 97, 109, 112, 108, 101, 47, 119, 104, 97, 114, 102, 100, 101, 115, 107, 47, 108, 97, 119, 115, 46, 70, 110, 69, 120, 97, 99, 116, 72, 97, 108, 108, 83, 101, 114, 118, 105, 99, 101]) := by kernel_rfl
set_option maxRecDepth 100000 in
theorem io : Tryd.prog.initOrder.toList = List.map Char.ofNat [104, 97, 114, 110, 101, 115, 115, 32, 49, 48, 51, 49, 100, 101, 51, 56, 55, 49, 99, 56, 97, 50, 51, 55, 100, 97, 97, 98, 97, 101, 53, 55, 52, 97, 51, 57, 55, 51, 99, 54, 97, 48, 52, 57, 101, 48, 50, 56, 101, 100, 99, 54, 51, 98, 48, 51, 55, 55, 54, 57, 57, 50, 98, 49, 57, 99, 50, 50, 100, 48, 101, 100, 32, 99, 117, 116, 32, 97, 116, 32, 108, 111, 111, 112, 46, 101, 120, 97, 109, 112, 108, 101, 47, 119, 104, 97, 114, 102, 100, 101, 115, 107, 47, 108, 97, 119, 115, 46, 70, 110, 69, 120, 97, 99, 116, 72, 97, 108, 108, 83, 101, 114, 118, 105, 99, 101] := by rw [ioe, String.toList_ofList]
set_option maxRecDepth 100000 in
theorem hd : Tryd.prog.mayEnter = true ∧ Tryd.prog.liftsFinal = false ∧ Tryd.prog.make = some .cut :=
  Go.Ab.head_of io (by kernel_rfl) (by kernel_rfl) (by kernel_rfl) (by kernel_rfl) (by kernel_rfl)
theorem jf : joinedFacts Tryd.prog 3 Tryd.f3 Rows.fnExactHallServiceSpec Rows.fnExactHallServiceRow = true := by
  unfold joinedFacts
  rw [hd.1, hd.2.1, hd.2.2]
  kernel_rfl
theorem over : Rows.fnExactHallServiceRow.holds Tryd.pinned (OpenSpec.ofChange Rows.fnExactHallServiceSpec) :=
  OpenClaim.holds_of_wide 3 Tryd.f3 rfl rfl rfl rfl rfl rfl rfl ⟨rfl, rfl, rfl, rfl, rfl⟩ rfl rfl rfl rfl rfl (by kernel_rfl) Tryd.func3 jf
    (of_decide_eq_true (by kernel_rfl)) (by unfold Func.isWrapper; first | (rw [if_pos (by decide +kernel)]; kernel_rfl) | (rw [if_neg (by decide +kernel)]; exact ⟨rfl, rfl⟩))
    (fun os started H enc _ => lifted os started H enc)
end Go.Proofs.YtelpmllnallilaaDoor.RHallService
namespace Go.Proofs.YtelpmllnallilaaDoor
theorem fnExactHallService_holds : Rows.FnExactHallServiceCardSaid :=
  Claim7.holds_tied_plain_at .later [] [.data, .data, .data, .sentinel, .sentinel, .sentinel] true (true, "1031de3871c8a237daabae574a3973c6a049e028edc63b03776992b19c22d0ed") true RHallService.over (fun _ h => by cases h) (by kernel_rfl) (fun _ h => by cases h) fnExactHallService_row_tie rfl ⟨rfl, rfl⟩ (by kernel_rfl) rfl
    (fun f fn hf hfn => by
      obtain rfl : f = 3 := Option.some.inj ((show Tryd.prog.funcNamed "loop.example/wharfdesk/laws.FnExactHallService" = some 3 by kernel_rfl).symm.trans hf) |>.symm
      obtain rfl : fn = Tryd.f3 := (Option.some.inj (Tryd.func3.symm.trans hfn)).symm
      exact ⟨by kernel_rfl, fun j t ht => by
        rw [Tryd.params3] at ht
        have hm : t ∈ [24, 26] := by simpa using Array.mem_of_getElem? ht
        have hall : ([24, 26].all fun u => !Tryd.prog.wantsStandIn u) = true := by kernel_rfl
        exact (show Tryd.prog.wantsStandIn t = false by simpa using List.all_eq_true.1 hall t hm)⟩)
    (by kernel_rfl)
end Go.Proofs.YtelpmllnallilaaDoor
