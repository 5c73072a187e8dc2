/- The program's FnSheetFill answers as the reference's: the statement. Conditions: none. -/
import Derived.Test.YtnnnemgbgilfaaaDoorLFnSheetFill
import Derived.Test.YtnnnemgbgilfaaaDoorAb3
import Derived.JoinedOf
import Derived.Test.YtnnnemgbgilfaaaDoorTie
import Derived.Test.YtnnnemgbgilfaaaDoorCards
import Derived.Lay
import Derived.LaidMore
import Derived.SevenTiedAt
import Derived.ProofKit
import Derived.OpenShut
set_option linter.unusedSimpArgs false
set_option linter.unusedVariables false
set_option linter.defProp false
open Go Go.Ab
namespace Go.Proofs.YtnnnemgbgilfaaaDoor.RFnSheetFill
open Go.ChangeShapes Go.WideShapes Go.ChangeAt Go.RowKit
open Go.Proofs.YtnnnemgbgilfaaaDoor.W
theorem own:ownKnob Tryd.prog.godebug=none:=by kernel_rfl
theorem laid:laidOutB Tryd.prog=true:=by kernel_rfl
set_option maxRecDepth 100000 in
theorem lifted (os:Os) (started:os.Started) (H:Type) (enc:TypeId × Value→H) :
  ReturnsInHanded {} Tryd.checked os 3 .any (fun w args=>(Rows.fnSheetFillSpec.pre enc Tryd.prog Tryd.f3 Rows.fnSheetFillRow.domain false w args∧laidMetH Tryd.prog Rows.fnSheetFillRow.laid w)∧sizedMet enc Tryd.prog Tryd.f3 (OpenSpec.ofChange Rows.fnSheetFillSpec) false w args)
   (Rows.fnSheetFillSpec.post enc Tryd.prog Tryd.f3 false true false false):=by
 refine returnsInHanded_of_change_and (C:=Tryd.checked) (X:=fun w _=>laidMetH Tryd.prog Rows.fnSheetFillRow.laid w) (fun _ _ _ hh h=>h.of_heap hh) own started (by kernel_rfl) Tryd.func3
  (ChangeSpec.witness_shaped (enc:=enc) (C:=Tryd.checked) (os:=os) (X:=fun w _=>laidMetH Tryd.prog Rows.fnSheetFillRow.laid w) false (World.laidAll Tryd.prog os Rows.fnSheetFillRow.laid) #[.slice none 0 0] 8 (World.laidAll_os _ _ _)
   (World.shaped_of_ZipB (by kernel_rfl) (by kernel_rfl)) (by kernel_rfl) (by kernel_rfl) (by kernel_rfl)
   (by rw [MakeChecks.laidMetH_plain _ _ _ (by kernel_rfl)]; exact laidMet_laidAll _ (by kernel_rfl) (by kernel_rfl))) ?_
 intro W base args ds gs before hval0 hW hcnd hsz0 hlaid _
 have hW':=hW
 obtain ⟨p,q,hA0,hV,rfl,hfz,hnd⟩:=hW
 have hA:DataW.TrodAll enc Tryd.prog W 0 (fun _=>true) true Tryd.f3.params.toList args.toList ds p:=hA0
 have hval:∀ (j:Nat) t v,Tryd.f3.params[j]?=some t→args[j]?=some v→Value.okWide Tryd.prog W .any base t v:=hval0
 have hB:=hA
 rw [Tryd.params3] at hA hval
 obtain ⟨v0,vs0,d0,ds0,p0,q0,hargs,rfl,rfl,k0,r0⟩:=trodAll_cons hA
 obtain ⟨rfl,rfl,rfl⟩:=trodAll_nil r0
 obtain rfl:args=#[v0]:=by cases args; simp_all
 obtain ⟨rfl,rfl⟩:=trodVars_none hV
 have hlt:∀ x∈p0++([]:List MemPlace),x.block<W.heap.size:=fun x hx=>by simpa using hW'.lt x (by simpa using hx)
 obtain ⟨ad0,ln0,cp0,hv0⟩:=okWide_slice Tryd.underlying22 (hval 0 22 v0 rfl rfl)
 obtain ⟨y0,his0,e0⟩:=open_one (m:=8) (by rw [hv0]; rfl) (by kernel_rfl:shOf Tryd.prog 8 22=some [.sl 1 [.int .u8]]) k0
 obtain ⟨x0,rfl⟩:=of_bytes his0
 clear hA0 hval0 hsz0
 refine (calls_law (Go.Proofs.YtnnnemgbgilfaaaDoor.LFnSheetFill.lawFnSheetFill x0  []) (show VsRel (Cx.start W) [_] [v0] by simp only [VsRel]; exact ⟨v0,_,rfl,e0,rfl⟩)).mono fun e W' ⟨he,bel⟩=>?_
 subst he
 exact ⟨_,rfl,_,_,_,[],_,[],hW',trodAll_mk1 (shut_bool Tryd.underlying4 _),trodAll_below laid bel (by kernel_rfl) hB hlt,rfl,bel.frame _,fun h=>by cases h⟩
set_option maxRecDepth 100000 in
theorem ioe:Tryd.prog.initOrder=String.ofList (List.map Char.ofNat [104,97,114,110,101,115,115,32,52,50,53,57,102,55,101,101,48,53,101,49,98,53,55,100,57,50,100,97,49,101,99,101,56,98,49,55,49,52,99,102,102,101,49,55,48,57,102,97,102,102,50,99,54,57,101,97,99,52,101,100,56,101,99,99,49,100,48,101,53,54,56,54,32,99,117,116,32,97,116,32,108,111,111,112,46,101,120,97,109,112,108,101,47,119,104,97,114,102,100,101,115,107,47,108,97,119,115,46,70,110,83,104,101,101,116,70,105,108,108,32,108,111,111,112,46,101,120,97,109,112,108,101,47,119,104,97,114,102,100,101,115,107,47,108,97,119,115,46,70,110,69,120,97,99,116,83,104,101,101,116,80,114,105,110,116]):=by kernel_rfl
set_option maxRecDepth 100000 in
theorem io:Tryd.prog.initOrder.toList=List.map Char.ofNat [104,97,114,110,101,115,115,32,52,50,53,57,102,55,101,101,48,53,101,49,98,53,55,100,57,50,100,97,49,101,99,101,56,98,49,55,49,52,99,102,102,101,49,55,48,57,102,97,102,102,50,99,54,57,101,97,99,52,101,100,56,101,99,99,49,100,48,101,53,54,56,54,32,99,117,116,32,97,116,32,108,111,111,112,46,101,120,97,109,112,108,101,47,119,104,97,114,102,100,101,115,107,47,108,97,119,115,46,70,110,83,104,101,101,116,70,105,108,108,32,108,111,111,112,46,101,120,97,109,112,108,101,47,119,104,97,114,102,100,101,115,107,47,108,97,119,115,46,70,110,69,120,97,99,116,83,104,101,101,116,80,114,105,110,116]:=by rw [ioe,String.toList_ofList]
set_option maxRecDepth 100000 in
theorem hd:Tryd.prog.mayEnter=true∧Tryd.prog.liftsFinal=false∧Tryd.prog.make=some .cut :=
 Go.Ab.head_of io (by kernel_rfl) (by kernel_rfl) (by kernel_rfl) (by kernel_rfl) (by kernel_rfl)
theorem jf:joinedFacts Tryd.prog 3 Tryd.f3 Rows.fnSheetFillSpec Rows.fnSheetFillRow=true:=by
 unfold joinedFacts
 rw [hd.1,hd.2.1,hd.2.2]
 kernel_rfl
theorem over:Rows.fnSheetFillRow.holds Tryd.pinned (OpenSpec.ofChange Rows.fnSheetFillSpec) :=
 OpenClaim.holds_of_wide 3 Tryd.f3 rfl rfl rfl rfl rfl rfl rfl ⟨rfl,rfl,rfl,rfl,rfl⟩ rfl rfl rfl rfl rfl (by kernel_rfl) Tryd.func3 jf
  (of_decide_eq_true (by kernel_rfl)) (by unfold Func.isWrapper; first | (rw [if_pos (by decide +kernel)]; kernel_rfl) | (rw [if_neg (by decide +kernel)]; exact ⟨rfl,rfl⟩))
  (fun os started H enc _=>lifted os started H enc)
end Go.Proofs.YtnnnemgbgilfaaaDoor.RFnSheetFill
namespace Go.Proofs.YtnnnemgbgilfaaaDoor
theorem fnSheetFill_holds:Rows.FnSheetFillCardSaid :=
 Claim7.holds_tied_plain_at .later [] [.data, .pinned] true (true, "4259f7ee05e1b57d92da1ece8b1714cffe1709faff2c69eac4ed8ecc1d0e5686") false RFnSheetFill.over (fun _ h => by cases h) (by kernel_rfl) (fun _ h => by cases h) fnSheetFill_row_tie rfl ⟨rfl, rfl⟩ (by kernel_rfl) rfl
  (fun f fn hf hfn=>by
   obtain rfl : f = 3 := Option.some.inj ((show Tryd.prog.funcNamed "loop.example/wharfdesk/laws.FnSheetFill" = some 3 by kernel_rfl).symm.trans hf) |>.symm
   obtain rfl:fn=Tryd.f3:=(Option.some.inj (Tryd.func3.symm.trans hfn)).symm
   exact ⟨by kernel_rfl,fun j t ht=>by
    rw [Tryd.params3] at ht
    have hm:t∈[22]:=by simpa using Array.mem_of_getElem? ht
    have hall:([22].all fun u=>!Tryd.prog.wantsStandIn u)=true:=by kernel_rfl
    exact (show Tryd.prog.wantsStandIn t=false by simpa using List.all_eq_true.1 hall t hm)⟩)
  (by kernel_rfl)
end Go.Proofs.YtnnnemgbgilfaaaDoor
