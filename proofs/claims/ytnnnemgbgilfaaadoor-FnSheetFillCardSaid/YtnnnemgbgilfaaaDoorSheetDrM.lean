/- A sheet that is drawn. Conditions: none. -/
/- A sheet copied, of one's own. Conditions: none. -/
/- What is seen of a sheet that is turned. Conditions: none. -/
import Derived.Test.YtnnnemgbgilfaaaDoorSheetDrI
import Derived.Test.YtnnnemgbgilfaaaDoorSheetFillA2
set_option linter.unusedSimpArgs false
set_option linter.unusedVariables false
set_option linter.defProp false
open Go.Ab renaming ds_get → zM, ds_get0 → zN, ds_id → zQ, ds_id0 → zR, ds_ids → zS, ds_ids0 → zT, ds_len → zL, ds_set → zO, ds_set0 → zP, eget → zC, env0 → zD, isNilP → zI, isNilS → zJ, lenSl → zH, lenStr → zG, nat_nn → zV, opv → zA, opvs → zB, putAt → zK, q_rows_r → zU, setD → zE
open List renaming getElem?_cons_succ → zo, getElem?_cons_zero → zn, getElem?_map → zm, length_append → zt, length_cons → zj, length_map → zh, length_nil → zk, length_set → zl, map_cons → zu, map_nil → zx, nil_append → zr, set_cons_succ → zq, set_cons_zero → zp
open Nat renaming reduceAdd → zb, reduceEqDiff → zX, reduceLT → zf, reduceLeDiff → zW, reduceMul → za, reduceSub → zY, zero_add → ze, zero_le → zd
open Option renaming map_some → yA
section
open Go Go.Ab
set_option maxHeartbeats 2000000
namespace Go.Proofs.YtnnnemgbgilfaaaDoor.W
def SmS (n:Nat) (bs:List SheetBlock):Prop:=bs.length≤n∧∀ b∈bs,SmB 7 b
def SheetQ (n:Nat) (r:V):Prop:=∃ bs:List SheetBlock,r=.agg [.t (tSheetBlockS bs)]∧SmS n bs
theorem SmS.ok {n:Nat} {bs:List SheetBlock} (h:SmS n bs) (hn:n≤1048576):SheetBlock.OkS bs:=⟨by have:=h.1; omega,fun b hb=>(h.2 b hb).ok (by omega)⟩
theorem putS_sm {n:Nat} {bs:List SheetBlock} {b:SheetBlock} (h:SmS n bs) (hb:SmB 7 b):SmS (n+1) (putS bs b):=by
 refine ⟨by rw [putS_len]; have:=h.1; omega,fun y hy=>?_⟩
 rcases putS_mem hy with rfl | hy
 ·exact hb
 ·exact h.2 y hy
theorem sees_foJ {n:Nat} {s:Store} {bs:List SheetBlock} {v:V} (h:FO n s bs v):SeesF n s (.lst 3 (bs.map SheetBlock.ts)) v:=by
 rcases h with ⟨rfl,rfl⟩ | ⟨id,h1,h2,h3⟩
 ·exact seesF_nils (by omega)
 ·subst h2; exact seesF_rows (by omega) h1 h3 (by simp)
theorem spec_l39CopyF (bs:List SheetBlock) (hbs:SheetBlock.OkS bs) (σ:Store):ACalls Tryd.prog 32 [.agg [.t (.lst 3 (bs.map SheetBlock.ts))]] σ fun r σ'=>r=.agg [.t (tSheetBlockS bs)]∧σ'=σ:=by
 refine acalls_frzL (ts:=[tSheetBlockS bs]) ?_
 refine (spec_l39CopyA bs hbs σ).mono ?_
 rintro r σ' ⟨v,rfl,hk,hl,hfo⟩
 refine ⟨σ'.drop σ.length,_,kp_split hk hl,rfl,?_⟩
 simp only [SeesFL]
 exact ⟨_,_,rfl,sees_foJ hfo,rfl⟩
theorem lv_sheet {bs:List SheetBlock} {lv:V} (h:LV 3 (bs.map SheetBlock.ts) lv) (x:Cx) (us:List V) (cargs:List Value) (ha:VsRel x (.agg [lv]::us) cargs):VsRel x (.agg [.t (.lst 3 (bs.map SheetBlock.ts))]::us) cargs:=by
 simp only [VsRel] at ha ⊢
 obtain ⟨c,cs,rfl,hc,hcs⟩:=ha
 refine ⟨c,cs,rfl,?_,hcs⟩
 simp only [VRel,VsRel] at hc ⊢
 obtain ⟨l,rfl,c1,l1,rfl,h1,rfl⟩:=hc
 exact ⟨_,rfl,_,_,rfl,h.rel h1,rfl⟩
theorem nil_block {kind name:List UInt8} (x:Cx) (u:V) (cargs:List Value) (ha:VsRel x [u,.agg [.t (.str kind),.t (.str name),.nils]] cargs):VsRel x [u,.agg (SheetBlock.mk kind name []).vs] cargs:=by
 simp only [VsRel] at ha
 obtain ⟨c,cs,rfl,hc,c2,cs2,rfl,h2,rfl⟩:=ha
 have:=lv_block (b:=⟨kind,name,[]⟩) (.inr ⟨rfl,rfl⟩) x [] [c2] (by simp only [VsRel]; exact ⟨_,_,rfl,h2,rfl⟩)
 simp only [VsRel] at this ⊢
 obtain ⟨_,_,h3,h4,h5⟩:=this
 simp only [List.cons.injEq] at h3
 obtain ⟨rfl,rfl⟩:=h3
 exact ⟨_,_,rfl,hc,_,_,rfl,h4,rfl⟩
theorem dec_len {i:Nat} (h:i≤60):(decN i).length≤2:=by
 have:=List.all_eq_true.1 (show ((List.range 61).all fun i=>decide ((decN i).length≤2))=true by decide +kernel) i (List.mem_range.2 (by omega))
 simpa using this
theorem LV.lenSl {n:Nat} {rows:List (List T)} {lv:V} (h:LV n rows lv):Go.Ab.lenSl lv=some rows.length:=by
 rcases h with rfl | ⟨rfl,rfl⟩ <;> rfl
structure Gs where
 k:Nat
 q:Nat
 bs:List SheetBlock
 lv:V
structure Gs2 where
 i:Nat
 bs:List SheetBlock
 lv:V
def c_spec_l39Draw:C:=(.seq (.ops [⟨some 2,none,.new [.nils]⟩]) (.seq (.ops [⟨some 8,none,.build [.nils] []⟩,⟨some 3,none,.new [.nils]⟩,⟨none,none,.store 1 (.t 3) (.t 8)⟩]) (.seq (.seq (.ops [⟨some 9,none,.mv (.t 0)⟩,⟨some 10,none,.call (.c (.fn (.func 47) [])) [.t 9,.c (.t (.int .i64 6))]⟩,⟨some 4,none,.mv (.t 10)⟩]) (.block 0 (.loop (.seq (.seq (.ops [⟨some 11,none,.mv (.t 4)⟩,⟨some 12,none,.bin .gtr (.t 11) (.c (.t (.int .i64 0)))⟩]) (.cond (.t 12) .skip (.exit 0))) (.seq (.block 1 (.seq (.ops [⟨some 15,none,.mv (.t 0)⟩,⟨some 16,none,.call (.c (.fn (.func 82) [])) [.t 15]⟩,⟨some 5,none,.new [.t (.str []),.t (.str []),.nils]⟩,⟨none,none,.store 3 (.t 5) (.t 16)⟩]) (.seq (.ops [⟨some 17,none,.load (some 1) (.t 3)⟩,⟨some 18,none,.fieldAddr 0 (.t 5)⟩,⟨some 19,none,.load none (.t 18)⟩,⟨some 20,none,.fieldAddr 1 (.t 5)⟩,⟨some 21,none,.load none (.t 20)⟩,⟨some 22,none,.call (.c (.fn (.func 48) [])) [.t 17,.t 19,.t 21]⟩,⟨some 23,none,.bin .lss (.t 22) (.c (.t (.int .i64 0)))⟩]) (.cond (.t 23) (.ops [⟨some 24,none,.load (some 1) (.t 3)⟩,⟨some 25,none,.load (some 3) (.t 5)⟩,⟨some 26,none,.call (.c (.fn (.func 83) [])) [.t 24,.t 25]⟩,⟨none,none,.store 1 (.t 3) (.t 26)⟩]) .skip)))) (.ops [⟨some 13,none,.mv (.t 4)⟩,⟨some 14,none,.bin .sub (.t 13) (.c (.t (.int .i64 1)))⟩,⟨some 4,none,.mv (.t 14)⟩])))))) (.seq (.seq (.ops [⟨some 27,none,.mv (.t 0)⟩,⟨some 28,none,.call (.c (.fn (.func 47) [])) [.t 27,.c (.t (.int .i64 24))]⟩,⟨some 29,none,.bin .eql (.t 28) (.c (.t (.int .i64 0)))⟩]) (.cond (.t 29) (.seq (.ops [⟨some 30,none,.mv (.t 0)⟩,⟨some 31,none,.call (.c (.fn (.func 47) [])) [.t 30,.c (.t (.int .i64 2))]⟩,⟨some 32,none,.bin .sub (.c (.t (.int .i64 60))) (.t 31)⟩,⟨some 6,none,.mv (.t 32)⟩]) (.seq (.ops [⟨some 7,none,.mv (.c (.t (.int .i64 0)))⟩]) (.block 2 (.loop (.seq (.seq (.ops [⟨some 33,none,.fieldAddr 0 (.t 3)⟩,⟨some 34,none,.load none (.t 33)⟩,⟨some 35,none,.len false (.t 34)⟩,⟨some 36,none,.mv (.t 6)⟩,⟨some 37,none,.bin .lss (.t 35) (.t 36)⟩]) (.cond (.t 37) .skip (.exit 2))) (.seq (.block 3 (.drawn [.mk 0 false ⟨some 40,none,.load (some 1) (.t 3)⟩ [],.mk 1 false ⟨some 41,none,.mv (.t 7)⟩ [],.mk 2 true ⟨some 42,none,.call (.c (.fn (.func 84) [])) [.t 41]⟩ [⟨some 40,none,.load (some 1) (.t 3)⟩],.mk 3 false ⟨some 43,none,.bin .add (.c (.t (.str [110]))) (.t 42)⟩ [],.mk 4 false ⟨some 44,none,.build [.t (.str []),.t (.str []),.nils] [⟨0,⟨1,.c (.t (.str [98,101,114,116,104]))⟩⟩,⟨1,⟨1,.t 43⟩⟩]⟩ [],.mk 5 false ⟨some 45,none,.call (.c (.fn (.func 83) [])) [.t 40,.t 44]⟩ [],.mk 6 false ⟨none,none,.store 1 (.t 3) (.t 45)⟩ []])) (.ops [⟨some 38,none,.mv (.t 7)⟩,⟨some 39,none,.bin .add (.t 38) (.c (.t (.int .i64 1)))⟩,⟨some 7,none,.mv (.t 39)⟩]))))))) .skip)) (.seq (.ops [⟨some 46,none,.load (some 1) (.t 3)⟩,⟨some 47,none,.call (.c (.fn (.func 32) [])) [.t 46]⟩,⟨none,none,.store 1 (.t 2) (.t 47)⟩]) .ret)))))
theorem k_spec_l39Draw:comp Tryd.prog 48 (Tryd.f57.body.getD .skip)=some c_spec_l39Draw:=by kernel_rfl
theorem d_draw (l:List UInt8) (hl:l.length≤2000) (id:Nat) :DrawC Tryd.prog 57 [.ptr id 0] l id 2000 (SheetQ 61):=by
 intro A p hid hp
 refine acalls_draw ?_
 refine acalls_of Tryd.func57 (by decide +kernel) (code:=Tryd.f57.body.getD .skip) (n:=48) (c:=c_spec_l39Draw) (rs:=[(.cell 2 (some 1))]) rfl rfl k_spec_l39Draw (by kernel_rfl) (by simp) (fun hσ=>?_)
 simp -implicitDefEqProofs only [zL,zM,zN,zO,zP,zQ hid,zR hid,zS hid,zT,zl,zU,yA,zj,zk,ze,zf,true_and,zV,zd,zh,zr,zn,zo,zp,zq,c_spec_l39Draw,zZ,zA,zB,zC,zD,zE,zG,zH,zI,zJ,zK,if_true,if_false,reduceCtorEq,zW,zX,zY,za,zb]
 refine call_draw (d_pick l hl id 6 (by omega) (by omega)) hid (by omega) ?_
 rintro r q1 hq1a hq1b ⟨n0,rfl,hn0⟩
 simp -implicitDefEqProofs only [zL,zM,zN,zO,zP,zQ hid,zR hid,zS hid,zT,zl,zU,yA,zj,zk,ze,zf,true_and,zV,zd,zh,zr,zn,zo,zp,zq,zZ,zA,zB,zC,zD,zE,zG,zH,zI,zJ,zK,if_true,if_false,reduceCtorEq,zW,zX,zY,za,zb]
 refine loop_s [4,0,2,3] [0,2,3] (fun g:Gs=>[(4,.t (.int .i64 (g.k:Nat)))]) (fun g=>A.set id (.box (rdW l g.q))++[.box [.nils],.box [g.lv]]) (fun g=>g.k≤5∧SmS (5 - g.k) g.bs∧LV 3 (g.bs.map SheetBlock.ts) g.lv∧q1≤g.q∧g.q+300 * g.k≤q1+1500) (fun g=>g.k) ⟨n0,q1,[],.nils⟩ (A.length+2) (fun g=>by simp) (by simp) ⟨by simp only; omega,⟨by simp,by simp⟩,.inr ⟨rfl,rfl⟩,Nat.le_refl _,by simp only; omega⟩ rfl rfl ?_
 rintro ⟨k,q,bs,lv⟩ ⟨g1,g3,g4,g5,g6⟩
 simp only at g1 g3 g4 g5 g6
 have ol:=g4.one
 have bok:=g3.ok (by omega)
 simp -implicitDefEqProofs only [keep,zh,zZ,zA,zB,zC,zD,zE,zG,zH,zI,zJ,zK,if_true,if_false,reduceCtorEq,zW,zX,zY,za,zb]
 refine cond_split (fun c0=>?_) (fun c0=>?_)
 ·have hk1:1≤k:=by simp at c0; omega
  have dec:=i64_pred (n:=k) hk1 (by omega)
  simp -implicitDefEqProofs only [zL,zM,zN,zO,zP,zQ hid,zR hid,zS hid,zT,zl,zU,yA,zj,zk,ze,zf,true_and,zV,zd,zh,zr,zn,zo,zp,zq,ol,zZ,zA,zB,zC,zD,zE,zG,zH,zI,zJ,zK,if_true,if_false,reduceCtorEq,zW,zX,zY,za,zb]
  refine call_draw (d_block l hl id) hid (by omega) ?_
  rintro r q2 hq2a hq2b ⟨b,rfl,hb,hbk⟩
  simp -implicitDefEqProofs only [zL,zM,zN,zO,zP,zQ hid,zR hid,zS hid,zT,zl,zU,yA,zj,zk,ze,zf,true_and,zV,zd,zh,zr,zn,zo,zp,zq,ol,SheetBlock.vs,zZ,zA,zB,zC,zD,zE,zG,zH,zI,zJ,zK,if_true,if_false,reduceCtorEq,zW,zX,zY,za,zb]
  have hbo:=hb.ok (by omega)
  have hlt2:ltσ (A.length+2) (A.set id (.box (rdW l q2)))=true:=ltσ_mono (by simp) (lt_set hσ rfl)
  have hfind:∀ σ:Store,ACalls Tryd.prog 48 [.agg [lv],.t (.str b.Kind),.t (.str b.Name)] σ fun r s=>r=.t (.int .i64 (blockIx ⟨bs⟩ b.Kind b.Name))∧s=σ:=fun σ=>acalls_weak (fun y ca h=>lv_sheet g4 y _ ca h) (spec_l39Find ⟨bs⟩ ⟨bok⟩ b.Kind b.Name σ)
  have hput:∀ σ:Store,ACalls Tryd.prog 83 [.agg [lv],.agg [.t (.str b.Kind),.t (.str b.Name),.t (.lst 2 (b.Lines.map SheetLine.ts))]] σ fun r s=>r=.agg [.t (tSheetBlockS (putS bs b))]∧s=σ:=fun σ=>acalls_weak (fun y ca h=>lv_sheet g4 y _ ca h) (spec_l39PutBlock bs bok b hbo σ)
  refine call_pure (hfind _) ?_
  simp -implicitDefEqProofs only [zL,zM,zN,zO,zP,zQ hid,zR hid,zS hid,zT,zl,zU,yA,zj,zk,ze,zf,true_and,zV,zd,zh,zr,zn,zo,zp,zq,ol,dec,zZ,zA,zB,zC,zD,zE,zG,zH,zI,zJ,zK,if_true,if_false,reduceCtorEq,zW,zX,zY,za,zb]
  refine cond_split (fun c1=>?_) (fun c1=>?_)
  ·simp -implicitDefEqProofs only [zL,zM,zN,zO,zP,zQ hid,zR hid,zS hid,zT,zl,zU,yA,zj,zk,ze,zf,true_and,zV,zd,zh,zr,zn,zo,zp,zq,ol,dec,zZ,zA,zB,zC,zD,zE,zG,zH,zI,zJ,zK,if_true,if_false,reduceCtorEq,zW,zX,zY,za,zb]
   refine call_pure (hput _) ?_
   simp -implicitDefEqProofs only [zL,zM,zN,zO,zP,zQ hid,zR hid,zS hid,zT,zl,zU,yA,zj,zk,ze,zf,true_and,zV,zd,zh,zr,zn,zo,zp,zq,ol,dec,zZ,zA,zB,zC,zD,zE,zG,zH,zI,zJ,zK,if_true,if_false,reduceCtorEq,zW,zX,zY,za,zb]
   have psm:=putS_sm g3 hb
   exact lk_s ⟨k - 1,q2,putS bs b,.t (tSheetBlockS (putS bs b))⟩ (by simp) (by simp) (by rw [List.append_assoc]; rfl) (by simp only; omega) ⟨by simp only; omega,⟨by have:=psm.1; simp only; omega,psm.2⟩,.inl rfl,by simp only; omega,by simp only; omega⟩ (by rw [q_ltσ_app,hlt2]; simp [ltσ,Ab.Obj.lt,V.lts,V.lt,g4.lt]) (by simp [ltE,keep,eget,V.lt]; omega) (by simp [keep,eget])
  ·simp -implicitDefEqProofs only [zL,zM,zN,zO,zP,zQ hid,zR hid,zS hid,zT,zl,zU,yA,zj,zk,ze,zf,true_and,zV,zd,zh,zr,zn,zo,zp,zq,ol,dec,zZ,zA,zB,zC,zD,zE,zG,zH,zI,zJ,zK,if_true,if_false,reduceCtorEq,zW,zX,zY,za,zb]
   exact lk_s ⟨k - 1,q2,bs,lv⟩ (by simp) (by simp) (by rw [List.append_assoc]; rfl) (by simp only; omega) ⟨by simp only; omega,⟨by have:=g3.1; simp only; omega,g3.2⟩,g4,by simp only; omega,by simp only; omega⟩ (by rw [q_ltσ_app,hlt2]; simp [ltσ,Ab.Obj.lt,V.lts,V.lt,g4.lt]) (by simp [ltE,keep,eget,V.lt]; omega) (by simp [keep,eget])
 ·simp -implicitDefEqProofs only [zL,zM,zN,zO,zP,zQ hid,zR hid,zS hid,zT,zl,zU,yA,zj,zk,ze,zf,true_and,zV,zd,zh,zr,zn,zo,zp,zq,ol,zZ,zA,zB,zC,zD,zE,zG,zH,zI,zJ,zK,if_true,if_false,reduceCtorEq,zW,zX,zY,za,zb]
  first | refine call_draw (d_pick l hl id 24 (by omega) (by omega)) hid (by omega) ?_ | refine call_draw0 (d_pick l hl id 24 (by omega) (by omega)) hid (by omega) ?_
  rintro r q2 hq2a hq2b ⟨x,rfl,hx⟩
  simp -implicitDefEqProofs only [zL,zM,zN,zO,zP,zQ hid,zR hid,zS hid,zT,zl,zU,yA,zj,zk,ze,zf,true_and,zV,zd,zh,zr,zn,zo,zp,zq,ol,zZ,zA,zB,zC,zD,zE,zG,zH,zI,zJ,zK,if_true,if_false,reduceCtorEq,zW,zX,zY,za,zb]
  refine cond_split (fun c1=>?_) (fun c1=>?_)
  ·simp -implicitDefEqProofs only [zL,zM,zN,zO,zP,zQ hid,zR hid,zS hid,zT,zl,zU,yA,zj,zk,ze,zf,true_and,zV,zd,zh,zr,zn,zo,zp,zq,ol,zZ,zA,zB,zC,zD,zE,zG,zH,zI,zJ,zK,if_true,if_false,reduceCtorEq,zW,zX,zY,za,zb]
   refine call_draw (d_pick l hl id 2 (by omega) (by omega)) hid (by omega) ?_
   rintro r q3 hq3a hq3b ⟨x2,rfl,hx2⟩
   have h60:IntKind.i64.wrap (60 - (x2:Int))=((60 - x2:Nat):Int):=by rw [IntWalk.i64_in _ (by omega)]; omega
   simp -implicitDefEqProofs only [zL,zM,zN,zO,zP,zQ hid,zR hid,zS hid,zT,zl,zU,yA,zj,zk,ze,zf,true_and,zV,zd,zh,zr,zn,zo,zp,zq,ol,h60,zZ,zA,zB,zC,zD,zE,zG,zH,zI,zJ,zK,if_true,if_false,reduceCtorEq,zW,zX,zY,za,zb]
   obtain ⟨N,hN⟩:∃ N,N=60 - x2:=⟨_,rfl⟩
   rw [← hN]
   refine loop_s [7,2,3,6] [2,3,6] (fun g:Gs2=>[(7,.t (.int .i64 (g.i:Nat)))]) (fun g=>A.set id (.box (rdW l q3))++[.box [.nils],.box [g.lv]]) (fun g=>g.i≤g.bs.length∧SmS 60 g.bs∧LV 3 (g.bs.map SheetBlock.ts) g.lv) (fun g=>61 - g.bs.length) ⟨0,bs,lv⟩ (A.length+2) (fun g=>by simp) (by simp) ⟨Nat.zero_le _,⟨by have:=g3.1; simp only; omega,g3.2⟩,g4⟩ rfl rfl ?_
   rintro ⟨i,bs2,lv2⟩ ⟨j1,j2,j3⟩
   simp only at j1 j2 j3
   have olB:=j3.one
   have llB:=j3.lenSl
   rw [List.length_map] at llB
   simp only [zH] at llB
   have bok2:=j2.ok (by omega)
   simp -implicitDefEqProofs only [zL,zM,zN,zO,zP,zQ hid,zR hid,zS hid,zT,zl,zU,yA,zj,zk,ze,zf,true_and,zV,zd,zh,zr,zn,zo,zp,zq,keep,olB,llB,zh,zZ,zA,zB,zC,zD,zE,zG,zH,zI,zJ,zK,if_true,if_false,reduceCtorEq,zW,zX,zY,za,zb]
   refine cond_split (fun c2=>?_) (fun c2=>?_)
   ·have hlb:bs2.length<60:=by simp at c2; omega
    have more:=i64_succ (show i<4611686018427387904 by omega)
    simp -implicitDefEqProofs only [zL,zM,zN,zO,zP,zQ hid,zR hid,zS hid,zT,zl,zU,yA,zj,zk,ze,zf,true_and,zV,zd,zh,zr,zn,zo,zp,zq,olB,llB,zZ,zA,zB,zC,zD,zE,zG,zH,zI,zJ,zK,if_true,if_false,reduceCtorEq,zW,zX,zY,za,zb]
    refine call_pure (spec_l38Dec i (by omega) _) ?_
    have dl:=dec_len (i:=i) (by omega)
    simp -implicitDefEqProofs only [zL,zM,zN,zO,zP,zQ hid,zR hid,zS hid,zT,zl,zU,yA,zj,zk,ze,zf,true_and,zV,zd,zh,zr,zn,zo,zp,zq,olB,llB,more,zZ,zA,zB,zC,zD,zE,zG,zH,zI,zJ,zK,if_true,if_false,reduceCtorEq,zW,zX,zY,za,zb]
    repeat' (first | (refine ⟨by (try simp only [zt,zj,zk]); omega,?_⟩; (try simp -implicitDefEqProofs only [zL,zM,zN,zO,zP,zQ hid,zR hid,zS hid,zT,zl,zU,yA,zj,zk,ze,zf,true_and,zV,zd,zh,zr,zn,zo,zp,zq,olB,llB,more,zZ,zA,zB,zC,zD,zE,zG,zH,zI,zJ,zK,if_true,if_false,reduceCtorEq,zW,zX,zY,za,zb])) | fail)
    have hsb:SmB 7 ⟨[98,101,114,116,104],110::decN i,[]⟩:=⟨by simp,by simp only [zj]; omega,by simp,by simp⟩
    have hput:∀ σ:Store,ACalls Tryd.prog 83 [.agg [lv2],.agg [.t (.str [98,101,114,116,104]),.t (.str (110::decN i)),.nils]] σ fun r s=>r=.agg [.t (tSheetBlockS (putS bs2 ⟨[98,101,114,116,104],110::decN i,[]⟩))]∧s=σ:=fun σ=>acalls_weak (fun y ca h=>nil_block y _ ca (lv_sheet j3 y _ ca h)) (spec_l39PutBlock bs2 bok2 ⟨[98,101,114,116,104],110::decN i,[]⟩ (hsb.ok (by omega)) σ)
    refine call_pure (hput _) ?_
    simp -implicitDefEqProofs only [zL,zM,zN,zO,zP,zQ hid,zR hid,zS hid,zT,zl,zU,yA,zj,zk,ze,zf,true_and,zV,zd,zh,zr,zn,zo,zp,zq,olB,llB,more,zZ,zA,zB,zC,zD,zE,zG,zH,zI,zJ,zK,if_true,if_false,reduceCtorEq,zW,zX,zY,za,zb]
    have psm:=putS_sm j2 hsb
    have pl:=putS_len bs2 ⟨[98,101,114,116,104],110::decN i,[]⟩
    exact lk_s0 ⟨i+1,putS bs2 ⟨[98,101,114,116,104],110::decN i,[]⟩,.t (tSheetBlockS (putS bs2 ⟨[98,101,114,116,104],110::decN i,[]⟩))⟩ (by simp) (by simp) rfl (by simp only; omega) ⟨by simp only; omega,⟨by simp only; omega,psm.2⟩,.inl rfl⟩ (by simp [keep,eget])
   ·have hcp:∀ σ:Store,ACalls Tryd.prog 32 [.agg [lv2]] σ fun r s=>r=.agg [.t (tSheetBlockS bs2)]∧s=σ:=fun σ=>acalls_weak (fun y ca h=>lv_sheet j3 y _ ca h) (spec_l39CopyF bs2 (j2.ok (by omega)) σ)
    simp -implicitDefEqProofs only [zL,zM,zN,zO,zP,zQ hid,zR hid,zS hid,zT,zl,zU,yA,zj,zk,ze,zf,true_and,zV,zd,zh,zr,zn,zo,zp,zq,ol,olB,keep,zZ,zA,zB,zC,zD,zE,zG,zH,zI,zJ,zK,if_true,if_false,reduceCtorEq,zW,zX,zY,za,zb]
    refine call_pure (hcp _) ?_
    simp -implicitDefEqProofs only [zL,zM,zN,zO,zP,zQ hid,zR hid,zS hid,zT,zl,zU,yA,zj,zk,ze,zf,true_and,zV,zd,zh,zr,zn,zo,zp,zq,ol,zZ,zA,zB,zC,zD,zE,zG,zH,zI,zJ,zK,if_true,if_false,reduceCtorEq,zW,zX,zY,za,zb]
    exact fin_draw (by omega) (by omega) (fz_agg _ _ [tSheetBlockS bs2]) ⟨bs2,rfl,by have:=j2.1; omega,j2.2⟩
  ·have hcp:∀ σ:Store,ACalls Tryd.prog 32 [.agg [lv]] σ fun r s=>r=.agg [.t (tSheetBlockS bs)]∧s=σ:=fun σ=>acalls_weak (fun y ca h=>lv_sheet g4 y _ ca h) (spec_l39CopyF bs (g3.ok (by omega)) σ)
   simp -implicitDefEqProofs only [zL,zM,zN,zO,zP,zQ hid,zR hid,zS hid,zT,zl,zU,yA,zj,zk,ze,zf,true_and,zV,zd,zh,zr,zn,zo,zp,zq,ol,keep,zZ,zA,zB,zC,zD,zE,zG,zH,zI,zJ,zK,if_true,if_false,reduceCtorEq,zW,zX,zY,za,zb]
   refine call_pure (hcp _) ?_
   simp -implicitDefEqProofs only [zL,zM,zN,zO,zP,zQ hid,zR hid,zS hid,zT,zl,zU,yA,zj,zk,ze,zf,true_and,zV,zd,zh,zr,zn,zo,zp,zq,ol,zZ,zA,zB,zC,zD,zE,zG,zH,zI,zJ,zK,if_true,if_false,reduceCtorEq,zW,zX,zY,za,zb]
   exact fin_draw (by omega) (by omega) (fz_agg _ _ [tSheetBlockS bs]) ⟨bs,rfl,by have:=g3.1; omega,g3.2⟩
end Go.Proofs.YtnnnemgbgilfaaaDoor.W
end
section
open Go Go.Ab
set_option maxHeartbeats 2000000
namespace Go.Proofs.YtnnnemgbgilfaaaDoor.W
theorem spec_l39BlockO (b:SheetBlock) (hb:b.Ok) (σ:Store):ACalls Tryd.prog 60 [.agg b.vs] σ (ToLR b.ts σ):=by
 refine acalls_of Tryd.func60 (by decide +kernel) (code:=Tryd.f60.body.getD .skip) (n:=8) (c:=c_spec_l39Block) (rs:=[(.cell 2 (some 3))]) rfl rfl k_spec_l39Block (by kernel_rfl) (by simp) (fun hσ=>?_)
 simp -implicitDefEqProofs only [c_spec_l39Block,SheetBlock.vs,zZ,zA,zB,zC,zD,zE,zG,zH,zI,zJ,zK,if_true,if_false,reduceCtorEq,zW,zX,zY,za,zb]
 have hl:=spec_l39LinesO b.Lines hb.Lines
 simp only [tSheetLineS] at hl
 refine call_new (hl _) ?_
 intro u s1 js hl1 hkp1 ho1 hw1
 have ou:=ho1.one
 simp only [zt,zj,zk] at hl1 hw1
 have b0:s1[σ.length]?=some (.box [.t (.str b.Kind),.t (.str b.Name),.t (.lst 2 (b.Lines.map SheetLine.ts))]):=hkp1.box (by rw [List.getElem?_append_right (by omega),Nat.sub_self]; rfl)
 have b1:s1[σ.length+1]?=some (.box [.t (.str []),.t (.str []),.nils]):=hkp1.box (by rw [List.getElem?_append_right (by omega),Nat.add_sub_cancel_left]; rfl)
 have b0s:∀ o:Go.Ab.Obj,(s1.set σ.length o)[σ.length]?=some o:=fun o=>List.getElem?_set_self (by omega)
 have b1s:∀ o:Go.Ab.Obj,(s1.set σ.length o)[σ.length+1]?=some (.box [.t (.str []),.t (.str []),.nils]):=fun o=>by rw [List.getElem?_set_ne (by omega)]; exact b1
 have b2s:∀ o o':Go.Ab.Obj,((s1.set σ.length o).set (σ.length+1) o')[σ.length+1]?=some o':=fun o o'=>List.getElem?_set_self (by rw [List.length_set]; omega)
 simp -implicitDefEqProofs only [b0,b1,b0s,b1s,b2s,ou,one_cells ou,zZ,zA,zB,zC,zD,zE,zG,zH,zI,zJ,zK,if_true,if_false,reduceCtorEq,zW,zX,zY,za,zb]
 have hk:Kp σ s1:=fun j hj=>by rw [hkp1 j (by simp; omega),List.getElem?_append_left hj]
 refine fin_keep (by simp; omega) ⟨[.t (.str b.Kind),.t (.str b.Name),u],_,js,rfl,kp_split ((hk.set (by omega)).set (by omega)) (by simp; omega),blk_own (ho1.frame fun i hi=>?_),hw1.mono (by omega) (by simp)⟩
 have:=hw1.2 i hi
 rw [List.getElem?_set_ne (by omega),List.getElem?_set_ne (by omega)]
set_option maxHeartbeats 8000000 in
theorem spec_l39CopyO (bs:List SheetBlock) (hbs:SheetBlock.OkS bs) (σ:Store):ACalls Tryd.prog 32 [.agg [.t (.lst 3 (bs.map SheetBlock.ts))]] σ (ToLR [tSheetBlockS bs] σ):=by
 refine acalls_of Tryd.func32 (by decide +kernel) (code:=Tryd.f32.body.getD .skip) (n:=25) (c:=c_spec_l39Copy) (rs:=[(.cell 2 (some 1))]) rfl rfl k_spec_l39Copy (by kernel_rfl) (by simp) (fun hσ=>?_)
 have y1:=hbs.1
 simp -implicitDefEqProofs only [c_spec_l39Copy,zh,zZ,zA,zB,zC,zD,zE,zG,zH,zI,zJ,zK,if_true,if_false,reduceCtorEq,zW,zX,zY,za,zb]
 refine loop_g [4,1,2,3] [1,2,3] (fun g:Gq=>[(4,.t (.int .i64 (g.k:Nat)))]) Gq.s (fun g=>g.k≤bs.length∧Kp σ g.s∧σ.length+3≤g.s.length∧Own g.s (.lst 3 ((bs.take g.k).map SheetBlock.ts)) g.v g.is∧Wi g.is (σ.length+3) g.s.length∧g.s[σ.length]?=some (.box [.t (.lst 3 (bs.map SheetBlock.ts))])∧g.s[σ.length+1]?=some (.box [.nils])∧g.s[σ.length+2]?=some (.box [g.v])) (fun g=>bs.length - g.k) ⟨0,.nils,σ++[.box [.t (.lst 3 (bs.map SheetBlock.ts))],.box [.nils],.box [.nils]],[]⟩ (by simp) ⟨Nat.zero_le _,Kp.app _ _,by simp,by simp [Own],Wi.nil,by simp,by simp,by simp⟩ rfl rfl ?_
 rintro ⟨k,v,s,is⟩ ⟨hk,hkp,hle,ho,hw,e1,e2,e3⟩
 simp only at hk hkp hle ho hw e1 e2 e3
 have hone:=ho.one
 simp -implicitDefEqProofs only [keep,e1,zh,zZ,zA,zB,zC,zD,zE,zG,zH,zI,zJ,zK,if_true,if_false,reduceCtorEq,zW,zX,zY,za,zb]
 refine cond_split (fun h1=>?_) (fun h1=>?_)
 ·obtain ⟨x,hx,hlt⟩:=at_of h1
  have more:=i64_succ (show k<4611686018427387904 by omega)
  have hxo:=hbs.2 x (List.mem_of_getElem? hx)
  have htk:(bs.take (k+1)).map SheetBlock.ts=(bs.take k).map SheetBlock.ts++[x.ts]:=by rw [take_of hx]; simp
  have c3:0<3:=by omega
  simp -implicitDefEqProofs only [e1,e2,e3,hone,hx,block_row hx,c3,zV,zd,zm,yA,zh,SheetBlock.ts,SheetBlock.vs,zZ,zA,zB,zC,zD,zE,zG,zH,zI,zJ,zK,if_true,if_false,reduceCtorEq,zW,zX,zY,za,zb]
  have hcl:=spec_l39BlockO x hxo
  simp only [SheetBlock.vs] at hcl
  refine call_newL (hcl _) ?_
  intro us s2 js hl1 kp2 ho1 hw1
  obtain ⟨u,rfl⟩:∃ u,us=[.t (.str x.Kind),.t (.str x.Name),u]:=by
   simp only [SheetBlock.ts,OwnL,Own] at ho1
   obtain ⟨_,_,_,_,rfl,_,⟨rfl,_⟩,_,_,_,_,rfl,_,⟨rfl,_⟩,u,_,_,_,rfl,_,_,rfl,_⟩:=ho1
   exact ⟨u,rfl⟩
  have ou:Go.Ab.one u=true:=by
   have:=ho1.ones
   simpa [Go.Ab.one] using this
  have g1:s2[σ.length]?=some (.box [.t (.lst 3 (bs.map SheetBlock.ts))]):=kp2.box e1
  have g2:s2[σ.length+1]?=some (.box [.nils]):=kp2.box e2
  have g3:s2[σ.length+2]?=some (.box [v]):=kp2.box e3
  have hrow:∀ (s':Store),rowsOf s' 3 (.rows 3 [[.t (.str x.Kind),.t (.str x.Name),u]])=some [[.t (.str x.Kind),.t (.str x.Name),u]]:=fun s'=>rowsOf_rows (by simp only [List.all_cons,List.all_nil,ou,Bool.and_true]; rfl)
  have c1:0<1:=by omega
  simp -implicitDefEqProofs only [g1,g2,g3,ou,one_cells ou,hone,c1,c3,more,zZ,zA,zB,zC,zD,zE,zG,zH,zI,zJ,zK,if_true,if_false,reduceCtorEq,zW,zX,zY,za,zb]
  refine And.intro (.inr ⟨fun _=>⟨_,v,rfl,rfl,?_⟩,trivial⟩) ?_
  ·simp -implicitDefEqProofs only [ev,eqK,g3,hone,evLoad,onV,onBox,ldV,zZ,zA,zB,zC,zD,zE,zG,zH,zI,zJ,zK,if_true,if_false,reduceCtorEq,zW,zX,zY,za,zb]
  simp -implicitDefEqProofs only [g1,g2,g3,hrow,ou,one_cells ou,hone,c1,c3,more,zZ,zA,zB,zC,zD,zE,zG,zH,zI,zJ,zK,if_true,if_false,reduceCtorEq,zW,zX,zY,za,zb]
  refine app_own' (kp2.own ho) (hw.mono (Nat.le_refl _) (by omega)) (r:=x.ts) (js:=js) ho1 (hw1.mono (by omega) (by omega)) (fun i hi=>by have:=hw.2 i hi; intro hm; have:=hw1.2 i hm; omega) (by omega) (by simp only [maxBy,List.length_take,zh]; omega) (by simp only [List.length_take,zh]; omega) ?_
  intro v' s' is' hl' kb ho' hv' hw'
  have nb:∀ p c,s2[p]?=some (Go.Ab.Obj.box c)→s'[p]?=some (Go.Ab.Obj.box c):=fun p c hp=>by
   rw [kb p (List.getElem?_eq_some_iff.1 hp).1 (own_box (kp2.own ho) hp)]; exact hp
  have g3':=nb _ _ g3
  have ov:=ho'.one
  simp -implicitDefEqProofs only [g3',ov,one_cells ov,more,zZ,zA,zB,zC,zD,zE,zG,zH,zI,zJ,zK,if_true,if_false,reduceCtorEq,zW,zX,zY,za,zb]
  have c3n:σ.length+2∉is':=own_box ho' g3'
  refine lk_g ⟨k+1,v',s'.set (σ.length+2) (.box [v']),is'⟩ (by simp only; omega) ⟨by simp only; omega,?_,?_,?_,?_,?_,?_,?_⟩ (by rw [List.length_set]; omega) rfl rfl
  ·refine Kp.set (fun j hj=>?_) (by omega)
   rw [kb j (by omega) (fun hm=>by have:=hw.2 j hm; omega),kp2 j (by omega),hkp j hj]
  ·simp only [zl]; omega
  ·simp only
   rw [htk]
   exact set_own ho' c3n
  ·simp only [zl]; exact hw'
  ·simp only
   rw [List.getElem?_set_ne (by omega)]; exact nb _ _ g1
  ·simp only
   rw [List.getElem?_set_ne (by omega)]; exact nb _ _ g2
  ·exact List.getElem?_set_self (by omega)
 ·have hkk:=end_of h1 hk
  rw [hkk,List.take_length] at ho
  have e2t:∀ o:Go.Ab.Obj,(s.set (σ.length+1) o)[σ.length+1]?=some o:=fun o=>List.getElem?_set_self (by omega)
  simp -implicitDefEqProofs only [e1,e2,e3,e2t,hone,one_cells hone,zZ,zA,zB,zC,zD,zE,zG,zH,zI,zJ,zK,if_true,if_false,reduceCtorEq,zW,zX,zY,za,zb]
  refine fin_keep (by simp; omega) ⟨[v],_,is,rfl,kp_split (hkp.set (by omega)) (by simp; omega),?_,hw.mono (by omega) (by simp)⟩
  simp only [OwnL]
  exact ⟨v,[],is,[],rfl,by simp,set_own ho (own_box ho e2),rfl,rfl⟩
end Go.Proofs.YtnnnemgbgilfaaaDoor.W
end
section
open Go Go.Ab
set_option maxHeartbeats 2000000
namespace Go.Proofs.YtnnnemgbgilfaaaDoor.W
theorem pick_z (l:List UInt8) (p id:Nat) (hp:p<1000000000) (σ:Store) (hid:σ[id]?=some (.box (rdV l p))):ACalls Tryd.prog 47 [.ptr id 0,.t (.int .i64 0)] σ fun r s=>r=.t (.int .i64 0)∧s=σ.set id (.box (rdV l (p+1))):=by
 refine acalls_of Tryd.func47 (by decide +kernel) (code:=Tryd.f47.body.getD .skip) (n:=99) (c:=c___spec_l37Rd__pick) (rs:=[(.tmp 4)]) rfl rfl k___spec_l37Rd__pick (by kernel_rfl) (by simp) (fun hσ=>?_)
 have hidl:=(List.getElem?_eq_some_iff.1 hid).1
 have s1:∀ o,(σ.set id o)[id]?=some o:=fun o=>List.getElem?_set_self hidl
 have more:=i64_succ (show p<4611686018427387904 by omega)
 have n1:decide ((0:Int)<1)=true:=rfl
 have bl:σ.length≤(σ.set id (.box (rdV l (p+1)))).length:=by rw [List.length_set]; exact Nat.le_refl _
 simp -implicitDefEqProofs only [c___spec_l37Rd__pick,hid,s1,zV,zd,zh,byteT_len,more,n1,cond_t,cond_f,zZ,zA,zB,zC,zD,zE,zG,zH,zI,zJ,zK,if_true,if_false,reduceCtorEq,zW,zX,zY,za,zb]
 exact fin_keep bl ⟨rfl,rfl⟩
theorem d_pickm (l:List UInt8) (hl:l.length≤2000) (id n:Nat) (hn2:n≤1000000):DrawC Tryd.prog 47 [.ptr id 0,.t (.int .i64 (n:Nat))] l id 1 (IntQ (max n 1)):=by
 rcases Nat.eq_zero_or_pos n with rfl | hn
 ·intro A p hid hp
  refine (pick_z l p id (by omega) _ (ds_id0 hid)).mono ?_
  rintro r s ⟨rfl,rfl⟩
  exact ⟨p+1,by omega,by omega,by rw [List.set_set],0,rfl,by decide⟩
 ·have:=d_pick l hl id n hn hn2
  rwa [show max n 1=n by omega]
theorem own_block {s:Store} {b:SheetBlock} {u:List V} {is:List Nat} (h:OwnL s b.ts u is):∃ lv,u=[.t (.str b.Kind),.t (.str b.Name),lv]∧Own s (tSheetLineS b.Lines) lv is:=by
 simp only [SheetBlock.ts,OwnL,Own] at h
 obtain ⟨_,_,_,_,rfl,rfl,⟨rfl,rfl⟩,_,_,_,_,rfl,rfl,⟨rfl,rfl⟩,u,_,i,j,rfl,rfl,h,rfl,rfl⟩:=h
 refine ⟨u,rfl,?_⟩
 simp only [tSheetLineS,Own,zr,List.append_nil]
 exact h
theorem own_line {s:Store} {x:SheetLine} {u:List V} {is:List Nat} (h:OwnL s x.ts u is):∃ wv,u=[.t (.str x.Key),wv]∧Own s (tStrs x.Words) wv is:=by
 simp only [SheetLine.ts,OwnL,Own] at h
 obtain ⟨_,_,_,_,rfl,rfl,⟨rfl,rfl⟩,u,_,i,j,rfl,rfl,h,rfl,rfl⟩:=h
 refine ⟨u,rfl,?_⟩
 simp only [tStrs,Own,zr,List.append_nil]
 exact h
theorem own_lenM {s:Store} {n:Nat} {rows:List (List T)} {w:V} {is:List Nat} (h:Own s (.lst n rows) w is):lenSl w=some rows.length:=by
 simp only [Own] at h
 obtain ⟨_,⟨rfl,_,rfl | rfl⟩ | ⟨id,js,rs,_,rfl,_,h2⟩⟩:=h
 ·rfl
 ·rfl
 ·simp only [zH,h2.len]
def SheetQ2 (r:V):Prop:=∃ bs:List SheetBlock,r=.agg [.t (tSheetBlockS bs)]∧bs.length≤62∧∀ b∈bs,SmB 12 b
def Sees1 (n:Nat) (σ:Store) (N:Nat) (r:List V):Prop:=∃ b:SheetBlock,SmB N b∧SeesFL n σ b.ts r
def SeesX (n:Nat) (σ:Store) (r:List V):Prop:=∃ x:SheetLine,SmL x∧SeesFL n σ x.ts r
def SeesLs (n:Nat) (σ:Store) (N:Nat) (lv:V):Prop:=∃ xs:List SheetLine,xs.length≤N∧(∀ x∈xs,SmL x)∧SeesF n σ (tSheetLineS xs) lv
theorem sees_rows {n:Nat} {σ:Store} {N:Nat}:∀ {rs:List (List V)},(∀ r∈rs,Sees1 n σ N r)→∃ bs:List SheetBlock,bs.length=rs.length∧(∀ b∈bs,SmB N b)∧SeesFR n σ (bs.map SheetBlock.ts) rs
 | [],_=>⟨[],rfl,by simp,by simp [SeesFR]⟩
 | r::rs,h=>by
  obtain ⟨b,h1,h2⟩:=h r List.mem_cons_self
  obtain ⟨bs,h3,h4,h5⟩:=sees_rows (rs:=rs) fun r hr=>h r (List.mem_cons_of_mem _ hr)
  refine ⟨b::bs,by simp [h3],fun y hy=>?_,?_⟩
  ·rcases List.mem_cons.1 hy with rfl | hy
   ·exact h1
   ·exact h4 y hy
  ·simp only [zu,SeesFR]
   exact ⟨_,_,rfl,h2,h5⟩
theorem sees_xs {n:Nat} {σ:Store}:∀ {rs:List (List V)},(∀ r∈rs,SeesX n σ r)→∃ xs:List SheetLine,xs.length=rs.length∧(∀ x∈xs,SmL x)∧SeesFR n σ (xs.map SheetLine.ts) rs
 | [],_=>⟨[],rfl,by simp,by simp [SeesFR]⟩
 | r::rs,h=>by
  obtain ⟨b,h1,h2⟩:=h r List.mem_cons_self
  obtain ⟨bs,h3,h4,h5⟩:=sees_xs (rs:=rs) fun r hr=>h r (List.mem_cons_of_mem _ hr)
  refine ⟨b::bs,by simp [h3],fun y hy=>?_,?_⟩
  ·rcases List.mem_cons.1 hy with rfl | hy
   ·exact h1
   ·exact h4 y hy
  ·simp only [zu,SeesFR]
   exact ⟨_,_,rfl,h2,h5⟩
theorem seesF_sl {n id m sz:Nat} {σ:Store} {rows:List (List T)} {rs:List (List V)} (hp:0<sz) (hn:n≤id) (h:σ[id]?=some (.slc sz rs)) (hr:SeesFR n σ rows rs) (hm:m=rs.length):SeesF n σ (.lst sz rows) (.sl id m 0 m):=by
 subst hm
 simp only [SeesF]
 refine .inr ⟨hp,(fun _ _ _ _ e=>by cases e; exact hn),rs,?_,hr⟩
 simp [rowsOf,h]
theorem seesLs_nils {n:Nat} {σ:Store} {N:Nat}:SeesLs n σ N .nils:=⟨[],by simp,by simp,seesF_nils (by omega)⟩
theorem seesLs_sl {n id m N:Nat} {σ:Store} {rs:List (List V)} (hn:n≤id) (h:σ[id]?=some (.slc 2 rs)) (hr:∀ r∈rs,SeesX n σ r) (hm:m=rs.length) (hN:m≤N):SeesLs n σ N (.sl id m 0 m):=by
 obtain ⟨xs,h1,h2,h3⟩:=sees_xs hr
 exact ⟨xs,by omega,h2,seesF_sl (by omega) hn h h3 hm⟩
theorem sees_block {n:Nat} {σ:Store} {N:Nat} {k nm:List UInt8} {lv:V} (hk:k.length≤20) (hn:nm.length≤30) (hl:SeesLs n σ N lv):Sees1 n σ N [.t (.str k),.t (.str nm),lv]:=by
 obtain ⟨xs,h1,h2,h3⟩:=hl
 refine ⟨⟨k,nm,xs⟩,⟨hk,hn,h1,h2⟩,?_⟩
 simp only [SheetBlock.ts,SeesFL]
 exact ⟨_,_,rfl,seesF_t _,_,_,rfl,seesF_t _,_,_,rfl,h3,rfl⟩
theorem sees_line {n:Nat} {σ:Store} {k:List UInt8} {ws:List (List UInt8)} {wv:V} (hs:SmL ⟨k,ws⟩) (hw:SeesF n σ (tStrs ws) wv):SeesX n σ [.t (.str k),wv]:=by
 refine ⟨⟨k,ws⟩,hs,?_⟩
 simp only [SheetLine.ts,SeesFL]
 exact ⟨_,_,rfl,seesF_t _,_,_,rfl,hw,rfl⟩
def Off (A L:Store) (ch is:List Nat):Prop:=∀ i∈is,∃ e,i=A.length+e∧e<L.length∧e∉ch
def SameOff (ch:List Nat) (L L':Store):Prop:=∀ e,e<L.length→e∉ch→L'[e]?=L[e]?
theorem sameOff_refl (ch:List Nat) (L:Store):SameOff ch L L:=fun _ _ _=>rfl
theorem SameOff.set {ch:List Nat} {L L':Store} {e:Nat} {o:Go.Ab.Obj} (h:SameOff ch L L') (he:e∈ch):SameOff ch L (L'.set e o):=fun i hi hc=>by
 rw [List.getElem?_set_ne (fun x=>hc (by rw [← x]; exact he)),h i hi hc]
theorem SameOff.app {ch:List Nat} {L L' X:Store} (h:SameOff ch L L') (hl:L.length≤L'.length):SameOff ch L (L'++X):=fun i hi hc=>by
 rw [List.getElem?_append_left (by omega),h i hi hc]
theorem Off.ge {A L:Store} {ch is:List Nat} (h:Off A L ch is):∀ i∈is,A.length≤i:=fun i hi=>by
 obtain ⟨e,rfl,_⟩:=h i hi; omega
theorem off_L {A L L':Store} {id:Nat} {o o':Go.Ab.Obj} {ch is:List Nat} {ts:List T} {r:List V} (h:OwnL (A.set id o++L) ts r is) (hi:Off A L ch is) (hs:SameOff ch L L'):OwnL (A.set id o'++L') ts r is:=h.frame fun i hm=>by
 obtain ⟨e,rfl,h1,h2⟩:=hi i hm
 rw [ds_get,ds_get,hs e h1 h2]
theorem off_O {A L L':Store} {id:Nat} {o o':Go.Ab.Obj} {ch is:List Nat} {t:T} {r:V} (h:Own (A.set id o++L) t r is) (hi:Off A L ch is) (hs:SameOff ch L L'):Own (A.set id o'++L') t r is:=h.frame fun i hm=>by
 obtain ⟨e,rfl,h1,h2⟩:=hi i hm
 rw [ds_get,ds_get,hs e h1 h2]
theorem own_each {A L S:Store} {ch:List Nat}:∀ {bs:List SheetBlock} {rs:List (List V)} {is:List Nat},OwnR S (bs.map SheetBlock.ts) rs is→Off A L ch is→(∀ b∈bs,SmB 7 b)→∀ r∈rs,∃ b is,SmB 7 b∧OwnL S b.ts r is∧Off A L ch is
 | [],rs,is,h,_,_=>by simp only [zx,OwnR] at h; obtain ⟨rfl,_⟩:=h; simp
 | b::bs,rs,is,h,hi,hb=>by
  simp only [zu,OwnR] at h
  obtain ⟨u,us,i,j,rfl,rfl,h1,h2⟩:=h
  intro r hr
  rcases List.mem_cons.1 hr with rfl | hr
  ·exact ⟨b,i,hb b List.mem_cons_self,h1,fun x hx=>hi x (by simp [hx])⟩
  ·exact own_each h2 (fun x hx=>hi x (by simp [hx])) (fun y hy=>hb y (List.mem_cons_of_mem _ hy)) r hr
theorem own_eachX {A L S:Store} {ch:List Nat}:∀ {bs:List SheetLine} {rs:List (List V)} {is:List Nat},OwnR S (bs.map SheetLine.ts) rs is→Off A L ch is→(∀ b∈bs,SmL b)→∀ r∈rs,∃ b is,SmL b∧OwnL S b.ts r is∧Off A L ch is
 | [],rs,is,h,_,_=>by simp only [zx,OwnR] at h; obtain ⟨rfl,_⟩:=h; simp
 | b::bs,rs,is,h,hi,hb=>by
  simp only [zu,OwnR] at h
  obtain ⟨u,us,i,j,rfl,rfl,h1,h2⟩:=h
  intro r hr
  rcases List.mem_cons.1 hr with rfl | hr
  ·exact ⟨b,i,hb b List.mem_cons_self,h1,fun x hx=>hi x (by simp [hx])⟩
  ·exact own_eachX h2 (fun x hx=>hi x (by simp [hx])) (fun y hy=>hb y (List.mem_cons_of_mem _ hy)) r hr
theorem spoil_fin {A L L':Store} {id e5 m:Nat} {o o':Go.Ab.Obj} {ch:List Nat} {ra rb:List (List V)} {row:List V} (h5:L'[e5]?=some (.slc 3 (ra++row::rb))) (hrow:Sees1 A.length (A.set id o'++L') 12 row) (ho:∀ r∈ra++rb,(∃ b is,SmB 7 b∧OwnL (A.set id o++L) b.ts r is∧Off A L ch is)∨Sees1 A.length (A.set id o'++L') 12 r) (hs:SameOff ch L L') (hm:m=ra.length+1+rb.length) (hm2:m≤62):∃ v,FzR A.length (A.set id o'++L') v (.agg [.sl (A.length+e5) m 0 m])∧SheetQ2 v:=by
 have key:∀ r∈ra++row::rb,Sees1 A.length (A.set id o'++L') 12 r:=by
  intro r hr
  have:r=row∨r∈ra++rb:=by
   simp only [List.mem_append,List.mem_cons] at hr ⊢
   rcases hr with h | h | h
   ·exact .inr (.inl h)
   ·exact .inl h
   ·exact .inr (.inr h)
  rcases this with rfl | hr
  ·exact hrow
  ·rcases ho r hr with ⟨b,is,h1,h2,h3⟩ | h
   ·exact ⟨b,h1.mono (by omega),(off_L h2 h3 hs).seesF h3.ge⟩
   ·exact h
 obtain ⟨bs,h1,h2,h3⟩:=sees_rows key
 have hl:(ra++row::rb).length=m:=by simp only [zt,zj]; omega
 refine ⟨.agg ([tSheetBlockS bs].map .t),.inl (.inr ⟨[tSheetBlockS bs],_,rfl,rfl,?_⟩),bs,rfl,by omega,h2⟩
 simp only [SeesFL]
 exact ⟨_,_,rfl,seesF_sl (by omega) (by omega) (by rw [ds_get]; exact h5) h3 hl.symm,rfl⟩
theorem own_tstr {s:Store}:∀ {ws:List (List UInt8)} {rs:List (List V)} {is:List Nat},OwnR s (ws.map tStr) rs is→rs=(ws.map tStr).map (fun r=>r.map .t)∧is=[]
 | [],rs,is,h=>by simp only [zx,OwnR] at h; simpa using h
 | w::ws,rs,is,h=>by
  simp only [zu,OwnR] at h
  obtain ⟨u,us,i,j,rfl,rfl,h1,h2⟩:=h
  obtain ⟨rfl,rfl⟩:=own_tstr h2
  simp only [tStr,OwnL,Own] at h1
  obtain ⟨_,_,_,_,rfl,rfl,⟨rfl,rfl⟩,rfl,rfl⟩:=h1
  exact ⟨by simp [tStr],by simp⟩
theorem d_odd (l:List UInt8) (hl:l.length≤2000) (id:Nat):DrawC Tryd.prog 85 [.ptr id 0] l id 2 (fun r=>∃ w:List UInt8,r=.t (.str w)∧w.length≤201):=by
 intro A p hid hp
 refine (draw_odd l hl p id (by omega) _ (ds_id0 hid)).mono ?_
 rintro r s ⟨w,rfl,hw,rfl⟩
 exact ⟨p+2,by omega,by omega,by rw [List.set_set],w,rfl,hw⟩
theorem mem_ext {α:Type} {r:α} {ra rb X:List α} (h:r∈ra++(rb++X)):r∈ra++rb∨r∈X:=by
 simp only [List.mem_append] at h ⊢
 rcases h with h | h | h
 ·exact .inl (.inl h)
 ·exact .inl (.inr h)
 ·exact .inr h
structure Gs9 where
 i:Nat
 rows:List (List V)
def lvv (id:Nat):List (List V)→V
 | []=>.nils
 | r::rs=>.sl id (rs.length+1) 0 (rs.length+1)
def obb:List (List V)→Store
 | []=>[]
 | r::rs=>[.slc 2 (r::rs)]
theorem lvv_nil (id:Nat):lvv id []=.nils:=rfl
theorem lvv_cons (id:Nat) (r:List V) (rs:List (List V)):lvv id (r::rs)=.sl id (rs.length+1) 0 (rs.length+1):=rfl
theorem obb_nil:obb []=[]:=rfl
theorem obb_cons (r:List V) (rs:List (List V)):obb (r::rs)=[.slc 2 (r::rs)]:=rfl
def MarkRow (r:List V):Prop:=∃ w:List UInt8,w.length≤10∧r=[.t (.str [109,97,114,107]),.rows 1 [[.t (.str w)]]]
theorem mark_sees {n:Nat} {σ:Store} {r:List V} (h:MarkRow r):SeesX n σ r:=by
 obtain ⟨w,hw,rfl⟩:=h
 refine sees_line (ws:=[w]) ⟨by simp,by simp,by simp; omega⟩ ?_
 simp only [tStrs,SeesF]
 refine .inr ⟨by omega,(fun _ _ _ _ e=>by cases e),_,by simp only [rowsOf]; exact if_pos ⟨trivial,rfl⟩,?_⟩
 simp only [zu,zx,SeesFR,tStr,SeesFL]
 exact ⟨_,_,rfl,⟨_,_,rfl,seesF_t _,rfl⟩,rfl⟩
theorem set_swap {α:Type} {L:List α} {m e:Nat} {a b c:α} (h:m≠e):((L.set m a).set e b).set m c=(L.set m c).set e b:=by
 rw [List.set_comm _ _ h.symm,List.set_set]
structure Gt9 where
 i:Nat
 q:Nat
 X:List (List V)
def TeamRow (r:List V):Prop:=∃ w:List UInt8,w.length≤10∧r=[.t (.str [116,101,97,109]),.t (.str w),.nils]
theorem team_sees {n:Nat} {σ:Store} {r:List V} (h:TeamRow r):Sees1 n σ 12 r:=by
 obtain ⟨w,hw,rfl⟩:=h
 exact sees_block (by decide) (by omega) seesLs_nils
theorem lvv_sees {A L:Store} {id m N:Nat} {o:Go.Ab.Obj} {rows:List (List V)} (hr:∀ r∈rows,MarkRow r) (hN:rows.length≤N) (hm:L[m]?=(obb rows)[0]?):SeesLs A.length (A.set id o++L) N (lvv (A.length+m) rows):=by
 cases rows with
 | nil=>exact seesLs_nils
 | cons r rs =>
  exact seesLs_sl (by omega) (by rw [ds_get,hm]; rfl) (fun r hr'=>mark_sees (hr r hr')) rfl hN
theorem fin_spoil {A L:Store} {l:List UInt8} {p q id N:Nat} {u:V} (h1:p≤q) (h2:q≤p+N) (h:∃ v,FzR A.length (A.set id (.box (rdW l q))++L) v u∧SheetQ2 v):retV A.length (DE A l p id N SheetQ2) (A.set id (.box (rdW l q))++L) (some [u]):=by
 obtain ⟨v,h3,h4⟩:=h
 exact fin_draw h1 h2 h3 h4
end Go.Proofs.YtnnnemgbgilfaaaDoor.W
end
