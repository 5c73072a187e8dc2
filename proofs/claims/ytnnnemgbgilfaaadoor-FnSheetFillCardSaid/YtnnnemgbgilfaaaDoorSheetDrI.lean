/- A drawn line. Conditions: none. -/
/- Keys counted, blocks put in their places. Conditions: none. -/
/- A block that is drawn. Conditions: none. -/
import Derived.Test.YtnnnemgbgilfaaaDoorSheetDrawF
import Derived.Test.YtnnnemgbgilfaaaDoorSheetFillA2
import Derived.Test.YtnnnemgbgilfaaaDoorSheetTrimC
import Derived.Test.YtnnnemgbgilfaaaDoorSheetFillP
import Derived.Test.YtnnnemgbgilfaaaDoorAb8
set_option linter.unusedSimpArgs false
set_option linter.unusedVariables false
set_option linter.defProp false
open Bool renaming and_eq_true → yB
open Go.Ab renaming ds_get → zM, ds_get0 → zN, ds_id → zQ, ds_id0 → zR, ds_ids → zS, ds_ids0 → zT, ds_len → zL, ds_set → zO, ds_set0 → zP, eget → zC, env0 → zD, isNilP → zI, isNilS → zJ, lenSl → zH, lenStr → zG, nat_nn → zV, opv → zA, opvs → zB, putAt → zK, q_rows_r → zU, setD → zE
open List renaming getElem?_cons_succ → zo, getElem?_cons_zero → zn, getElem?_map → zm, length_append → zt, length_cons → zj, length_map → zh, length_nil → zk, length_set → zl, map_cons → zu, map_nil → zx, nil_append → zr, set_cons_succ → zq, set_cons_zero → zp, take_succ_cons → z0
open Nat renaming reduceAdd → zb, reduceEqDiff → zX, reduceLT → zf, reduceLeDiff → zW, reduceMul → za, reduceSub → zY, zero_add → ze, zero_le → zd
open Option renaming map_some → yA
section
open Go Go.Ab
set_option maxHeartbeats 2000000
namespace Go.Proofs.YtnnnemgbgilfaaaDoor.W
set_option maxRecDepth 20000 in
theorem draw_wordK (l:List UInt8) (hl:l.length≤2000) (p id:Nat) (hp:p<900000000) (t:Int) (σ:Store) (hid:σ[id]?=some (.box (rdV l p))):ACalls Tryd.prog 112 [.ptr id 0,.t (.int .i64 t)] σ fun r σ'=>∃ (w:List UInt8) (q:Nat),r=.t (.str w)∧w.length≤200∧(p≤q∧q≤p+2)∧σ'=σ.set id (.box (rdV l q)):=by
 refine acalls_of Tryd.func112 (by decide +kernel) (code:=Tryd.f112.body.getD .skip) (n:=43) (c:=c_spec_l38Word) (rs:=[(.tmp 4)]) rfl rfl k_spec_l38Word (by kernel_rfl) (by simp) (fun hσ=>?_)
 have hidl:=(List.getElem?_eq_some_iff.1 hid).1
 have s1:∀ o,(σ.set id o)[id]?=some o:=fun o=>List.getElem?_set_self hidl
 have bl:∀ o,σ.length≤(σ.set id o).length:=fun o=>by rw [List.length_set]; exact Nat.le_refl _
 simp -implicitDefEqProofs only [c_spec_l38Word,zZ,zA,zB,zC,zD,zE,zG,zH,zI,zJ,zK,if_true,if_false,reduceCtorEq,zW,zX,zY,za,zb]
 refine cond_split (fun h0=>?_) (fun h0=>?_)
 ·have c1:0<6∧1<6∧2<6∧3<6∧4<6∧5<6:=by omega
  simp -implicitDefEqProofs only [c1,List.replicate,zZ,zA,zB,zC,zD,zE,zG,zH,zI,zJ,zK,if_true,if_false,reduceCtorEq,zW,zX,zY,za,zb]
  refine lit_rows ?_
  simp -implicitDefEqProofs only [zZ,zA,zB,zC,zD,zE,zG,zH,zI,zJ,zK,if_true,if_false,reduceCtorEq,zW,zX,zY,za,zb]
  refine call_by (by rw [List.append_nil]; exact pick_n l hl p 6 id (by omega) (by omega) (by omega) _ hid) ?_
  rintro r σ' ⟨y,rfl,hy,rfl⟩
  simp -implicitDefEqProofs only [zV,zd,zZ,zA,zB,zC,zD,zE,zG,zH,zI,zJ,zK,if_true,if_false,reduceCtorEq,zW,zX,zY,za,zb]
  refine pick_row (m:=200) (by decide) (by simpa using hy) ?_
  intro w hw
  simp -implicitDefEqProofs only [zZ,zA,zB,zC,zD,zE,zG,zH,zI,zJ,zK,if_true,if_false,reduceCtorEq,zW,zX,zY,za,zb]
  exact fin_keep (bl _) ⟨w,p+1,rfl,hw,by omega,rfl⟩
 simp -implicitDefEqProofs only [zZ,zA,zB,zC,zD,zE,zG,zH,zI,zJ,zK,if_true,if_false,reduceCtorEq,zW,zX,zY,za,zb]
 refine cond_split (fun h1=>?_) (fun h1=>?_)
 ·have c1:0<5∧1<5∧2<5∧3<5∧4<5:=by omega
  simp -implicitDefEqProofs only [c1,List.replicate,zZ,zA,zB,zC,zD,zE,zG,zH,zI,zJ,zK,if_true,if_false,reduceCtorEq,zW,zX,zY,za,zb]
  refine lit_rows ?_
  simp -implicitDefEqProofs only [zZ,zA,zB,zC,zD,zE,zG,zH,zI,zJ,zK,if_true,if_false,reduceCtorEq,zW,zX,zY,za,zb]
  refine call_by (by rw [List.append_nil]; exact pick_n l hl p 5 id (by omega) (by omega) (by omega) _ hid) ?_
  rintro r σ' ⟨y,rfl,hy,rfl⟩
  simp -implicitDefEqProofs only [zV,zd,zZ,zA,zB,zC,zD,zE,zG,zH,zI,zJ,zK,if_true,if_false,reduceCtorEq,zW,zX,zY,za,zb]
  refine pick_row (m:=200) (by decide) (by simpa using hy) ?_
  intro w hw
  simp -implicitDefEqProofs only [zZ,zA,zB,zC,zD,zE,zG,zH,zI,zJ,zK,if_true,if_false,reduceCtorEq,zW,zX,zY,za,zb]
  exact fin_keep (bl _) ⟨w,p+1,rfl,hw,by omega,rfl⟩
 simp -implicitDefEqProofs only [zZ,zA,zB,zC,zD,zE,zG,zH,zI,zJ,zK,if_true,if_false,reduceCtorEq,zW,zX,zY,za,zb]
 refine cond_split (fun h2=>?_) (fun h2=>?_)
 ·have c1:0<4∧1<4∧2<4∧3<4:=by omega
  simp -implicitDefEqProofs only [c1,List.replicate,zZ,zA,zB,zC,zD,zE,zG,zH,zI,zJ,zK,if_true,if_false,reduceCtorEq,zW,zX,zY,za,zb]
  refine lit_rows ?_
  simp -implicitDefEqProofs only [zZ,zA,zB,zC,zD,zE,zG,zH,zI,zJ,zK,if_true,if_false,reduceCtorEq,zW,zX,zY,za,zb]
  refine call_by (by rw [List.append_nil]; exact pick_n l hl p 4 id (by omega) (by omega) (by omega) _ hid) ?_
  rintro r σ' ⟨y,rfl,hy,rfl⟩
  simp -implicitDefEqProofs only [zV,zd,zZ,zA,zB,zC,zD,zE,zG,zH,zI,zJ,zK,if_true,if_false,reduceCtorEq,zW,zX,zY,za,zb]
  refine pick_row (m:=200) (by decide) (by simpa using hy) ?_
  intro w hw
  simp -implicitDefEqProofs only [zZ,zA,zB,zC,zD,zE,zG,zH,zI,zJ,zK,if_true,if_false,reduceCtorEq,zW,zX,zY,za,zb]
  exact fin_keep (bl _) ⟨w,p+1,rfl,hw,by omega,rfl⟩
 simp -implicitDefEqProofs only [zZ,zA,zB,zC,zD,zE,zG,zH,zI,zJ,zK,if_true,if_false,reduceCtorEq,zW,zX,zY,za,zb]
 refine cond_split (fun h3=>?_) (fun h3=>?_)
 ·have c1:0<2∧1<2:=by omega
  simp -implicitDefEqProofs only [c1,List.replicate,zZ,zA,zB,zC,zD,zE,zG,zH,zI,zJ,zK,if_true,if_false,reduceCtorEq,zW,zX,zY,za,zb]
  refine lit_rows ?_
  simp -implicitDefEqProofs only [zZ,zA,zB,zC,zD,zE,zG,zH,zI,zJ,zK,if_true,if_false,reduceCtorEq,zW,zX,zY,za,zb]
  refine call_by (by rw [List.append_nil]; exact pick_n l hl p 2 id (by omega) (by omega) (by omega) _ hid) ?_
  rintro r σ' ⟨y,rfl,hy,rfl⟩
  simp -implicitDefEqProofs only [zV,zd,zZ,zA,zB,zC,zD,zE,zG,zH,zI,zJ,zK,if_true,if_false,reduceCtorEq,zW,zX,zY,za,zb]
  refine pick_row (m:=200) (by decide) (by simpa using hy) ?_
  intro w hw
  simp -implicitDefEqProofs only [zZ,zA,zB,zC,zD,zE,zG,zH,zI,zJ,zK,if_true,if_false,reduceCtorEq,zW,zX,zY,za,zb]
  exact fin_keep (bl _) ⟨w,p+1,rfl,hw,by omega,rfl⟩
 simp -implicitDefEqProofs only [zZ,zA,zB,zC,zD,zE,zG,zH,zI,zJ,zK,if_true,if_false,reduceCtorEq,zW,zX,zY,za,zb]
 refine cond_split (fun h4=>?_) (fun h4=>?_)
 ·have c1:0<3∧1<3∧2<3:=by omega
  simp -implicitDefEqProofs only [c1,List.replicate,zZ,zA,zB,zC,zD,zE,zG,zH,zI,zJ,zK,if_true,if_false,reduceCtorEq,zW,zX,zY,za,zb]
  refine lit_rows ?_
  simp -implicitDefEqProofs only [zZ,zA,zB,zC,zD,zE,zG,zH,zI,zJ,zK,if_true,if_false,reduceCtorEq,zW,zX,zY,za,zb]
  refine call_by (by rw [List.append_nil]; exact pick_n l hl p 3 id (by omega) (by omega) (by omega) _ hid) ?_
  rintro r σ' ⟨y,rfl,hy,rfl⟩
  simp -implicitDefEqProofs only [zV,zd,zZ,zA,zB,zC,zD,zE,zG,zH,zI,zJ,zK,if_true,if_false,reduceCtorEq,zW,zX,zY,za,zb]
  refine pick_row (m:=200) (by decide) (by simpa using hy) ?_
  intro w hw
  simp -implicitDefEqProofs only [zZ,zA,zB,zC,zD,zE,zG,zH,zI,zJ,zK,if_true,if_false,reduceCtorEq,zW,zX,zY,za,zb]
  exact fin_keep (bl _) ⟨w,p+1,rfl,hw,by omega,rfl⟩
 simp -implicitDefEqProofs only [zZ,zA,zB,zC,zD,zE,zG,zH,zI,zJ,zK,if_true,if_false,reduceCtorEq,zW,zX,zY,za,zb]
 refine call_by (by rw [List.append_nil]; exact draw_text l hl p id hp _ hid) ?_
 rintro r σ' ⟨w,rfl,hw,rfl⟩
 simp -implicitDefEqProofs only [zZ,zA,zB,zC,zD,zE,zG,zH,zI,zJ,zK,if_true,if_false,reduceCtorEq,zW,zX,zY,za,zb]
 exact fin_keep (bl _) ⟨w,p+2,rfl,hw,by omega,rfl⟩
def LineK (kind:List UInt8) (l:List UInt8) (p id:Nat) (σ:Store) (r:V) (σ':Store):Prop:=∃ (key:List UInt8) (ws:List (List UInt8)) (v:V) (is:List Nat) (q:Nat),r=.agg [.t (.str key),v]∧(∃ ru∈rulesR kind,ru.Key=key)∧key.length≤20∧ws.length≤8∧(p≤q∧q≤p+40)∧DW σ l id q ws v is σ.length σ'
set_option maxHeartbeats 8000000 in
theorem draw_lineK (l:List UInt8) (hl:l.length≤2000) (p id:Nat) (hp:p+40≤900000000) (kind:List UInt8) (hk:kindOk kind=true) (σ:Store) (hid:σ[id]?=some (.box (rdV l p))):ACalls Tryd.prog 98 [.ptr id 0,.t (.str kind)] σ (LineK kind l p id σ):=by
 refine acalls_of Tryd.func98 (by decide +kernel) (code:=Tryd.f98.body.getD .skip) (n:=56) (c:=c_spec_l38Line) (rs:=[(.cell 4 (some 2))]) rfl rfl k_spec_l38Line (by kernel_rfl) (by simp) (fun hσ=>?_)
 have hidl:=(List.getElem?_eq_some_iff.1 hid).1
 obtain ⟨r0,rl,hrc⟩:=rules_cons hk
 have hn1:1≤(rulesR kind).length:=by rw [hrc]; simp
 have hn2:=(rules_small kind).1
 simp -implicitDefEqProofs only [c_spec_l38Line,zZ,zA,zB,zC,zD,zE,zG,zH,zI,zJ,zK,if_true,if_false,reduceCtorEq,zW,zX,zY,za,zb]
 refine call_pure (spec_SheetRules kind _) ?_
 simp -implicitDefEqProofs only [zh,zZ,zA,zB,zC,zD,zE,zG,zH,zI,zJ,zK,if_true,if_false,reduceCtorEq,zW,zX,zY,za,zb]
 refine call_by (by rw [List.append_nil]; exact pick_n l hl p (rulesR kind).length id (by omega) hn1 (by omega) _ ((Kp.app σ _).box hid)) ?_
 rintro r σ' ⟨x,rfl,hx,rfl⟩
 obtain ⟨ru,hru⟩:∃ ru,(rulesR kind)[x]?=some ru:=⟨(rulesR kind)[x],List.getElem?_eq_getElem hx⟩
 have hsmall:=List.all_eq_true.1 (rules_small kind).2 ru (List.mem_of_getElem? hru)
 simp only [ruleSmall,yB,decide_eq_true_eq,List.all_eq_true] at hsmall
 obtain ⟨⟨⟨⟨m1,m2⟩,m3⟩,m4⟩,m5⟩:=hsmall
 have hkl:=m1
 have hset:∀ o τ,(σ++τ:Store).set id o=σ.set id o++τ:=fun o τ=>List.set_append_left _ _ hidl
 have hsl:∀ o:Go.Ab.Obj,(σ.set id o).length=σ.length:=fun o=>List.length_set
 obtain ⟨S,hS⟩:∃ S,S=σ.set id (.box (rdV l (p+1))):=⟨_,rfl⟩
 have hSl:S.length=σ.length:=by rw [hS,hsl]
 have hSid:S[id]?=some (.box (rdV l (p+1))):=by rw [hS]; exact List.getElem?_set_self hidl
 have hSk:Kb [id] σ S:=by rw [hS]; exact Kb.setId
 rw [hset,← hS,show σ.length=S.length from hSl.symm]
 simp -implicitDefEqProofs only [zV,zd,zm,hru,yA,SheetRule.ts,zh,zZ,zA,zB,zC,zD,zE,zG,zH,zI,zJ,zK,if_true,if_false,reduceCtorEq,zW,zX,zY,za,zb]
 obtain ⟨N,hN⟩:∃ N,N=S.length:=⟨_,rfl⟩
 rcases hm:ru.Many with _ | _
 ·simp -implicitDefEqProofs only [cond_t,cond_f,zZ,zA,zB,zC,zD,zE,zG,zH,zI,zJ,zK,if_true,if_false,reduceCtorEq,zW,zX,zY,za,zb]
  refine call_by (by rw [List.append_nil]; exact pick_n l hl (p+1) 4 id (by omega) (by omega) (by omega) _ ((Kp.app S _).box hSid)) ?_
  rintro r σ' ⟨y,rfl,hy,rfl⟩
  have hset2:∀ o τ,(S++τ:Store).set id o=S.set id o++τ:=fun o τ=>List.set_append_left _ _ (by omega)
  rw [hset2]
  simp -implicitDefEqProofs only [cond_t,cond_f,zZ,zA,zB,zC,zD,zE,zG,zH,zI,zJ,zK,if_true,if_false,reduceCtorEq,zW,zX,zY,za,zb]
  refine cond_split (fun hy0=>?_) (fun hy0=>?_)
  ·have b7:ru.Default.length * 16≤maxBy:=by simp only [maxBy]; omega
   have b8:ru.Default.length≤9223372036854775807:=by omega
   obtain ⟨R1,hR1⟩:∃ R1,R1=S.set id (.box (rdV l (p+1+1))):=⟨_,rfl⟩
   have hR1l:R1.length=S.length:=by rw [hR1,List.length_set]
   have hR1id:R1[id]?=some (.box (rdV l (p+1+1))):=by rw [hR1]; exact List.getElem?_set_self (by omega)
   have hR1k:Kb [id] σ R1:=by rw [hR1]; exact Kb.trans hSk (by omega) Kb.setId
   rw [← hR1,← hR1l]
   simp -implicitDefEqProofs only [b7,b8,zh,zZ,zA,zB,zC,zD,zE,zG,zH,zI,zJ,zK,if_true,if_false,reduceCtorEq,zW,zX,zY,za,zb]
   refine fin_keep (by first | omega | (simp; done) | (simp; omega)) ⟨ru.Key,ru.Default,_,[R1.length+3],p+1+1,rfl,⟨ru,List.mem_of_getElem? hru,rfl⟩,hkl,by omega,by omega,⟨by simp; omega,?_,?_,own_strs ?_ rfl,noRows_sl,?_,fun w hw=>by have:=m5 w hw; omega⟩⟩
   ·exact (Kp.app R1 _).box hR1id
   ·exact Kb.trans hR1k (by omega) (Kb.le (Kp.app R1 _))
   ·rw [List.getElem?_append_right (by omega),Nat.add_sub_cancel_left]; rfl
   ·exact ⟨by simp,fun x hx=>by simp at hx; subst hx; simp; omega⟩
  ·skip
   rw [← hN]
   have hR1l:(S.set id (.box (rdV l (p+1+1)))).length=N:=by simp [hN]
   have hR1id:(S.set id (.box (rdV l (p+1+1))))[id]?=some (.box (rdV l (p+1+1))):=by first | exact hSid | exact List.getElem?_set_self (by omega)
   have hR1k:Kb [id] σ (S.set id (.box (rdV l (p+1+1)))):=by first | exact hSk | exact Kb.trans hSk (by omega) Kb.setId
   obtain ⟨R1,hR1⟩:∃ R1,R1=S.set id (.box (rdV l (p+1+1))):=⟨_,rfl⟩
   rw [← hR1] at hR1l hR1id hR1k ⊢
   refine loop_g [8,0,4,6,7] [0,4,6,7] (fun g:Gd=>[(8,.t (.int .i64 (g.i:Nat)))]) Gd.s (fun g=>g.i≤ru.Args.length∧g.ws.length=g.i∧(p≤g.q∧g.q≤p+2+2 * g.i)∧DW σ l id g.q g.ws g.v g.is (N+3) g.s∧g.s[N]?=some (.box [.t (.str []),.nils])∧g.s[N+1]?=some (.box [.t (.str ru.Key),.t (.lst 1 (ru.Args.map tInt)),.t (.bool false),.t (.lst 1 (ru.Default.map tStr))])∧g.s[N+2]?=some (.box [.t (.str ru.Key),g.v])) (fun g=>ru.Args.length - g.i) ⟨0,(p+1+1),[],.nils,[],R1++[.box [.t (.str []),.nils],.box [.t (.str ru.Key),.t (.lst 1 (ru.Args.map tInt)),.t (.bool false),.t (.lst 1 (ru.Default.map tStr))],.box [.t (.str ru.Key),.nils]]⟩ (by simp; omega) ⟨Nat.zero_le _,rfl,by simp only; omega,⟨by simp [hR1l],(Kp.app R1 _).box hR1id,Kb.trans hR1k (by omega) (Kb.le (Kp.app R1 _)),by simp [Own],noRows_nils,Wi.nil,by simp⟩,by simp [← hR1l],by simp [← hR1l],by simp [← hR1l]⟩ rfl rfl ?_
   rintro ⟨i,q,ws,v,is,s⟩ ⟨hi,hwl,hq,hdw,e4,e5,e6⟩
   simp only at hi hwl hq hdw e4 e5 e6
   have hone:=hdw.one
   have hsl3:=hdw.le
   simp -implicitDefEqProofs only [keep,e5,zh,zZ,zA,zB,zC,zD,zE,zG,zH,zI,zJ,zK,if_true,if_false,reduceCtorEq,zW,zX,zY,za,zb]
   refine cond_split (fun h1=>?_) (fun h1=>?_)
   ·obtain ⟨t,ht,hlt⟩:=at_of h1
    have more:=i64_succ (show i<4611686018427387904 by omega)
    simp -implicitDefEqProofs only [keep,e5,e6,hone,ht,zV,zd,zm,yA,tInt,zu,zx,zZ,zA,zB,zC,zD,zE,zG,zH,zI,zJ,zK,if_true,if_false,reduceCtorEq,zW,zX,zY,za,zb]
    refine call_by (by rw [List.append_nil]; exact draw_wordK l hl q id (by omega) t _ hdw.rd) ?_
    rintro r σ' ⟨w,q',rfl,hw,hq',rfl⟩
    have e6b:∀ o:Go.Ab.Obj,(s.set id o)[N+2]?=some (.box [.t (.str ru.Key),v]):=fun o=>by rw [List.getElem?_set_ne (by omega)]; exact e6
    have hrow:∀ (s:Store) (w:List UInt8),rowsOf s 1 (.rows 1 [[.t (.str w)]])=some [[.t (.str w)]]:=fun s w=>rowsOf_rows rfl
    have c1:0<1:=by omega
    obtain ⟨s1,hs1⟩:∃ s1,s1=s.set id (.box (rdV l q')):=⟨_,rfl⟩
    have e6c:s1[N+2]?=some (.box [.t (.str ru.Key),v]):=by rw [hs1]; exact e6b _
    have hs1l:s1.length=s.length:=by rw [hs1,List.length_set]
    rw [← hs1]
    simp -implicitDefEqProofs only [e6c,hrow,c1,hone,zZ,zA,zB,zC,zD,zE,zG,zH,zI,zJ,zK,if_true,if_false,reduceCtorEq,zW,zX,zY,za,zb]
    refine And.intro (.inr ?_) ?_
    ·refine ⟨fun _=>⟨_,v,rfl,rfl,?_⟩,trivial⟩
     simp -implicitDefEqProofs only [ev,eqK,e6c,hone,evLoad,onV,onBox,ldV,zZ,zA,zB,zC,zD,zE,zG,zH,zI,zJ,zK,if_true,if_false,reduceCtorEq,zW,zX,zY,za,zb]
    try simp -implicitDefEqProofs only [e6c,hrow,c1,hone,zZ,zA,zB,zC,zD,zE,zG,zH,zI,zJ,zK,if_true,if_false,reduceCtorEq,zW,zX,zY,za,zb]
    have hidn:id∉is:=fun hm=>by have:=hdw.wi.2 id hm; omega
    have hge:∀ x∈is,N+3≤x:=fun x hx=>(hdw.wi.2 x hx).1
    refine app_own (rows:=ws.map tStr) (r:=[.str w]) (is:=is) (js:=[]) (a:=N+3) (hdw.own.frame fun j hj=>by rw [hs1]; exact List.getElem?_set_ne (fun e=>hidn (by rw [e]; exact hj))) hdw.nr (by rw [hs1l]; exact hdw.wi) (ownL_flat [T.str w] (by simp [scalar])) Wi.nil (fun _ _=>by simp) (by omega) (by rw [List.length_map]; simp only [maxBy]; omega) (by rw [List.length_map]; omega) ?_
    intro v' s2 is' hle2 kb2 ho2 hnr2 hw2
    have hone2:=ho2.one
    have k1:∀ x,x<N+3→x≠id→s2[x]?=s[x]?:=fun x hx hxi=>by
     rw [kb2 x (by omega) (fun hm=>by have:=hge x hm; omega),hs1,List.getElem?_set_ne (fun e=>hxi e.symm)]
    have kid:s2[id]?=some (.box (rdV l q')):=by
     rw [kb2 id (by omega) hidn,hs1]; exact List.getElem?_set_self (by omega)
    have g6:s2[N+2]?=some (.box [.t (.str ru.Key),v]):=(k1 _ (by omega) (by omega)).trans e6
    simp -implicitDefEqProofs only [g6,hone,hone2,one_cells hone,one_cells hone2,more,zZ,zA,zB,zC,zD,zE,zG,zH,zI,zJ,zK,if_true,if_false,reduceCtorEq,zW,zX,zY,za,zb]
    refine lk_g ⟨i+1,q',ws++[w],v',is',s2.set (N+2) (.box [.t (.str ru.Key),v'])⟩ (by simp only; omega) ⟨by simp only; omega,by simp [hwl],by simp only; omega,⟨by simp; omega,by rw [List.getElem?_set_ne (by omega)]; exact kid,fun x hx hxi=>?_,?_,hnr2,by rw [List.length_set]; exact hw2,fun y hy=>?_⟩,by rw [List.getElem?_set_ne (by omega)]; exact (k1 _ (by omega) (by omega)).trans e4,by rw [List.getElem?_set_ne (by omega)]; exact (k1 _ (by omega) (by omega)).trans e5,List.getElem?_set_self (by omega)⟩ (by simp; omega) rfl rfl
    ·have hxi':x≠id:=by simpa using hxi
     simp only
     rw [List.getElem?_set_ne (by omega),k1 x (by omega) hxi']
     exact hdw.kp x hx hxi
    ·have:(ws++[w]).map tStr=ws.map tStr++[[.str w]]:=by simp [tStr]
     simp only [tStrs,this]
     exact ho2.frame fun x hx=>by have:=hw2.2 x hx; rw [List.getElem?_set_ne (by omega)]
    ·rcases List.mem_append.1 hy with hy | hy
     ·exact hdw.sm y hy
     ·simp at hy; subst hy; omega
   ·have hii:=end_of h1 hi
    have e4t:∀ o:Go.Ab.Obj,(s.set N o)[N]?=some o:=fun o=>List.getElem?_set_self (by omega)
    simp -implicitDefEqProofs only [e4,e5,e6,e4t,hone,one_cells hone,zZ,zA,zB,zC,zD,zE,zG,zH,zI,zJ,zK,if_true,if_false,reduceCtorEq,zW,zX,zY,za,zb]
    refine fin_keep (by simp; omega) ⟨ru.Key,ws,v,is,q,rfl,⟨ru,List.mem_of_getElem? hru,rfl⟩,hkl,by omega,by omega,⟨by simp; omega,by rw [List.getElem?_set_ne (by omega)]; exact hdw.rd,fun x hx hxi=>?_,hdw.own.frame fun x hx=>?_,hdw.nr,by rw [List.length_set]; exact hdw.wi.mono (by omega) (Nat.le_refl _),hdw.sm⟩⟩
    ·rw [List.getElem?_set_ne (by omega)]; exact hdw.kp x hx hxi
    ·have:=hdw.wi.2 x hx
     rw [List.getElem?_set_ne (by omega)]
 ·simp -implicitDefEqProofs only [cond_t,cond_f,zZ,zA,zB,zC,zD,zE,zG,zH,zI,zJ,zK,if_true,if_false,reduceCtorEq,zW,zX,zY,za,zb]
  rw [← hN]
  have hR1l:(S).length=N:=by simp [hN]
  have hR1id:(S)[id]?=some (.box (rdV l (p+1))):=by first | exact hSid | exact List.getElem?_set_self (by omega)
  have hR1k:Kb [id] σ (S):=by first | exact hSk | exact Kb.trans hSk (by omega) Kb.setId
  obtain ⟨R1,hR1⟩:∃ R1,R1=S:=⟨_,rfl⟩
  rw [← hR1] at hR1l hR1id hR1k ⊢
  refine loop_g [8,0,4,6,7] [0,4,6,7] (fun g:Gd=>[(8,.t (.int .i64 (g.i:Nat)))]) Gd.s (fun g=>g.i≤ru.Args.length∧g.ws.length=g.i∧(p≤g.q∧g.q≤p+2+2 * g.i)∧DW σ l id g.q g.ws g.v g.is (N+3) g.s∧g.s[N]?=some (.box [.t (.str []),.nils])∧g.s[N+1]?=some (.box [.t (.str ru.Key),.t (.lst 1 (ru.Args.map tInt)),.t (.bool true),.t (.lst 1 (ru.Default.map tStr))])∧g.s[N+2]?=some (.box [.t (.str ru.Key),g.v])) (fun g=>ru.Args.length - g.i) ⟨0,(p+1),[],.nils,[],R1++[.box [.t (.str []),.nils],.box [.t (.str ru.Key),.t (.lst 1 (ru.Args.map tInt)),.t (.bool true),.t (.lst 1 (ru.Default.map tStr))],.box [.t (.str ru.Key),.nils]]⟩ (by simp; omega) ⟨Nat.zero_le _,rfl,by simp only; omega,⟨by simp [hR1l],(Kp.app R1 _).box hR1id,Kb.trans hR1k (by omega) (Kb.le (Kp.app R1 _)),by simp [Own],noRows_nils,Wi.nil,by simp⟩,by simp [← hR1l],by simp [← hR1l],by simp [← hR1l]⟩ rfl rfl ?_
  rintro ⟨i,q,ws,v,is,s⟩ ⟨hi,hwl,hq,hdw,e4,e5,e6⟩
  simp only at hi hwl hq hdw e4 e5 e6
  have hone:=hdw.one
  have hsl3:=hdw.le
  simp -implicitDefEqProofs only [keep,e5,zh,zZ,zA,zB,zC,zD,zE,zG,zH,zI,zJ,zK,if_true,if_false,reduceCtorEq,zW,zX,zY,za,zb]
  refine cond_split (fun h1=>?_) (fun h1=>?_)
  ·obtain ⟨t,ht,hlt⟩:=at_of h1
   have more:=i64_succ (show i<4611686018427387904 by omega)
   simp -implicitDefEqProofs only [keep,e5,e6,hone,ht,zV,zd,zm,yA,tInt,zu,zx,zZ,zA,zB,zC,zD,zE,zG,zH,zI,zJ,zK,if_true,if_false,reduceCtorEq,zW,zX,zY,za,zb]
   refine call_by (by rw [List.append_nil]; exact draw_wordK l hl q id (by omega) t _ hdw.rd) ?_
   rintro r σ' ⟨w,q',rfl,hw,hq',rfl⟩
   have e6b:∀ o:Go.Ab.Obj,(s.set id o)[N+2]?=some (.box [.t (.str ru.Key),v]):=fun o=>by rw [List.getElem?_set_ne (by omega)]; exact e6
   have hrow:∀ (s:Store) (w:List UInt8),rowsOf s 1 (.rows 1 [[.t (.str w)]])=some [[.t (.str w)]]:=fun s w=>rowsOf_rows rfl
   have c1:0<1:=by omega
   obtain ⟨s1,hs1⟩:∃ s1,s1=s.set id (.box (rdV l q')):=⟨_,rfl⟩
   have e6c:s1[N+2]?=some (.box [.t (.str ru.Key),v]):=by rw [hs1]; exact e6b _
   have hs1l:s1.length=s.length:=by rw [hs1,List.length_set]
   rw [← hs1]
   simp -implicitDefEqProofs only [e6c,hrow,c1,hone,zZ,zA,zB,zC,zD,zE,zG,zH,zI,zJ,zK,if_true,if_false,reduceCtorEq,zW,zX,zY,za,zb]
   refine And.intro (.inr ?_) ?_
   ·refine ⟨fun _=>⟨_,v,rfl,rfl,?_⟩,trivial⟩
    simp -implicitDefEqProofs only [ev,eqK,e6c,hone,evLoad,onV,onBox,ldV,zZ,zA,zB,zC,zD,zE,zG,zH,zI,zJ,zK,if_true,if_false,reduceCtorEq,zW,zX,zY,za,zb]
   try simp -implicitDefEqProofs only [e6c,hrow,c1,hone,zZ,zA,zB,zC,zD,zE,zG,zH,zI,zJ,zK,if_true,if_false,reduceCtorEq,zW,zX,zY,za,zb]
   have hidn:id∉is:=fun hm=>by have:=hdw.wi.2 id hm; omega
   have hge:∀ x∈is,N+3≤x:=fun x hx=>(hdw.wi.2 x hx).1
   refine app_own (rows:=ws.map tStr) (r:=[.str w]) (is:=is) (js:=[]) (a:=N+3) (hdw.own.frame fun j hj=>by rw [hs1]; exact List.getElem?_set_ne (fun e=>hidn (by rw [e]; exact hj))) hdw.nr (by rw [hs1l]; exact hdw.wi) (ownL_flat [T.str w] (by simp [scalar])) Wi.nil (fun _ _=>by simp) (by omega) (by rw [List.length_map]; simp only [maxBy]; omega) (by rw [List.length_map]; omega) ?_
   intro v' s2 is' hle2 kb2 ho2 hnr2 hw2
   have hone2:=ho2.one
   have k1:∀ x,x<N+3→x≠id→s2[x]?=s[x]?:=fun x hx hxi=>by
    rw [kb2 x (by omega) (fun hm=>by have:=hge x hm; omega),hs1,List.getElem?_set_ne (fun e=>hxi e.symm)]
   have kid:s2[id]?=some (.box (rdV l q')):=by
    rw [kb2 id (by omega) hidn,hs1]; exact List.getElem?_set_self (by omega)
   have g6:s2[N+2]?=some (.box [.t (.str ru.Key),v]):=(k1 _ (by omega) (by omega)).trans e6
   simp -implicitDefEqProofs only [g6,hone,hone2,one_cells hone,one_cells hone2,more,zZ,zA,zB,zC,zD,zE,zG,zH,zI,zJ,zK,if_true,if_false,reduceCtorEq,zW,zX,zY,za,zb]
   refine lk_g ⟨i+1,q',ws++[w],v',is',s2.set (N+2) (.box [.t (.str ru.Key),v'])⟩ (by simp only; omega) ⟨by simp only; omega,by simp [hwl],by simp only; omega,⟨by simp; omega,by rw [List.getElem?_set_ne (by omega)]; exact kid,fun x hx hxi=>?_,?_,hnr2,by rw [List.length_set]; exact hw2,fun y hy=>?_⟩,by rw [List.getElem?_set_ne (by omega)]; exact (k1 _ (by omega) (by omega)).trans e4,by rw [List.getElem?_set_ne (by omega)]; exact (k1 _ (by omega) (by omega)).trans e5,List.getElem?_set_self (by omega)⟩ (by simp; omega) rfl rfl
   ·have hxi':x≠id:=by simpa using hxi
    simp only
    rw [List.getElem?_set_ne (by omega),k1 x (by omega) hxi']
    exact hdw.kp x hx hxi
   ·have:(ws++[w]).map tStr=ws.map tStr++[[.str w]]:=by simp [tStr]
    simp only [tStrs,this]
    exact ho2.frame fun x hx=>by have:=hw2.2 x hx; rw [List.getElem?_set_ne (by omega)]
   ·rcases List.mem_append.1 hy with hy | hy
    ·exact hdw.sm y hy
    ·simp at hy; subst hy; omega
  ·have hii:=end_of h1 hi
   have e4t:∀ o:Go.Ab.Obj,(s.set N o)[N]?=some o:=fun o=>List.getElem?_set_self (by omega)
   simp -implicitDefEqProofs only [e4,e5,e6,e4t,hone,one_cells hone,zZ,zA,zB,zC,zD,zE,zG,zH,zI,zJ,zK,if_true,if_false,reduceCtorEq,zW,zX,zY,za,zb]
   refine fin_keep (by simp; omega) ⟨ru.Key,ws,v,is,q,rfl,⟨ru,List.mem_of_getElem? hru,rfl⟩,hkl,by omega,by omega,⟨by simp; omega,by rw [List.getElem?_set_ne (by omega)]; exact hdw.rd,fun x hx hxi=>?_,hdw.own.frame fun x hx=>?_,hdw.nr,by rw [List.length_set]; exact hdw.wi.mono (by omega) (Nat.le_refl _),hdw.sm⟩⟩
   ·rw [List.getElem?_set_ne (by omega)]; exact hdw.kp x hx hxi
   ·have:=hdw.wi.2 x hx
    rw [List.getElem?_set_ne (by omega)]
end Go.Proofs.YtnnnemgbgilfaaaDoor.W
end
section
open Go Go.Ab
set_option maxHeartbeats 2000000
namespace Go.Proofs.YtnnnemgbgilfaaaDoor.W
def cntS (ls:List SheetLine) (x:SheetLine):Nat:=ls.countP fun y=>y.Key == x.Key && y.Words == x.Words
theorem cntS_step {ls:List SheetLine} {j:Nat} {y:SheetLine} (h:ls[j]?=some y) (x:SheetLine):cntS (ls.take (j+1)) x=cntS (ls.take j) x+(if (y.Key == x.Key && y.Words == x.Words)=true then 1 else 0):=by
 rw [take_of h,cntS,List.countP_append,List.countP_cons,List.countP_nil,Nat.zero_add]; rfl
theorem cntS_le (ls:List SheetLine) (j:Nat) (x:SheetLine):cntS (ls.take j) x≤j:=Nat.le_trans List.countP_le_length (by simp; omega)
def c_spec_l39Key:C:=(.seq (.ops [⟨some 2,none,.box (.t 0)⟩,⟨some 3,none,.box (.t 1)⟩,⟨some 4,none,.mv (.c (.t (.int .i64 0)))⟩,⟨some 5,none,.mv (.c (.t (.int .i64 0)))⟩]) (.seq (.ops [⟨some 6,none,.mv (.c (.t (.int .i64 0)))⟩]) (.seq (.ops [⟨some 7,none,.mv (.c (.t (.int .i64 0)))⟩]) (.seq (.seq (.ops [⟨some 8,none,.mv (.c (.t (.int .i64 0)))⟩]) (.block 0 (.loop (.seq (.seq (.ops [⟨some 9,none,.mv (.t 8)⟩,⟨some 10,none,.fieldAddr 2 (.t 2)⟩,⟨some 11,none,.load none (.t 10)⟩,⟨some 12,none,.len false (.t 11)⟩,⟨some 13,none,.bin .lss (.t 9) (.t 12)⟩]) (.cond (.t 13) .skip (.exit 0))) (.seq (.block 1 (.seq (.drawn [.mk 0 false ⟨some 16,none,.fieldAddr 2 (.t 2)⟩ [],.mk 1 false ⟨some 17,none,.load none (.t 16)⟩ [],.mk 2 false ⟨some 18,none,.mv (.t 8)⟩ [],.mk 3 false ⟨some 19,none,.indexAddr 2 (.t 17) (.t 18)⟩ [],.mk 4 false ⟨some 20,none,.fieldAddr 0 (.t 19)⟩ [],.mk 5 false ⟨some 21,none,.load none (.t 20)⟩ [],.mk 6 false ⟨some 22,none,.fieldAddr 0 (.t 3)⟩ [],.mk 7 false ⟨some 23,none,.load none (.t 22)⟩ [],.mk 8 false ⟨some 24,none,.bin .eql (.t 21) (.t 23)⟩ []]) (.cond (.t 24) (.seq (.ops [⟨some 25,none,.mv (.t 6)⟩,⟨some 26,none,.bin .add (.t 25) (.c (.t (.int .i64 1)))⟩,⟨some 6,none,.mv (.t 26)⟩]) (.seq (.drawn [.mk 0 false ⟨some 27,none,.fieldAddr 2 (.t 2)⟩ [],.mk 1 false ⟨some 28,none,.load none (.t 27)⟩ [],.mk 2 false ⟨some 29,none,.mv (.t 8)⟩ [],.mk 3 false ⟨some 30,none,.indexAddr 2 (.t 28) (.t 29)⟩ [],.mk 4 false ⟨some 31,none,.fieldAddr 1 (.t 30)⟩ [],.mk 5 false ⟨some 32,none,.load none (.t 31)⟩ [],.mk 6 false ⟨some 33,none,.fieldAddr 1 (.t 3)⟩ [],.mk 7 false ⟨some 34,none,.load none (.t 33)⟩ [],.mk 8 false ⟨some 35,none,.call (.c (.fn (.func 37) [])) [.t 32,.t 34]⟩ []]) (.cond (.t 35) (.ops [⟨some 36,none,.mv (.t 7)⟩,⟨some 37,none,.bin .add (.t 36) (.c (.t (.int .i64 1)))⟩,⟨some 7,none,.mv (.t 37)⟩]) .skip))) .skip))) (.ops [⟨some 14,none,.mv (.t 8)⟩,⟨some 15,none,.bin .add (.t 14) (.c (.t (.int .i64 1)))⟩,⟨some 8,none,.mv (.t 15)⟩])))))) (.seq (.ops [⟨some 38,none,.mv (.t 6)⟩,⟨some 39,none,.mv (.t 7)⟩,⟨some 4,none,.mv (.t 38)⟩,⟨some 5,none,.mv (.t 39)⟩]) .ret)))))
theorem k_spec_l39Key:comp Tryd.prog 40 (Tryd.f99.body.getD .skip)=some c_spec_l39Key:=by kernel_rfl
theorem spec_l39Key (bk:SheetBlock) (hb:bk.Ok) (x:SheetLine) (hx:x.Ok)  (σ:Store):ACalls Tryd.prog 99 [.agg (bk.vs),.agg (x.vs)] σ fun rr σ'=>rr=.tup [.t (.int .i64 (cntK bk.Lines x.Key:Nat)),.t (.int .i64 (cntS bk.Lines x:Nat))]∧σ'=σ:=by
 refine acalls_of Tryd.func99 (by decide +kernel) (code:=Tryd.f99.body.getD .skip) (n:=40) (c:=c_spec_l39Key) (rs:=[(.tmp 4),(.tmp 5)]) rfl rfl k_spec_l39Key (by kernel_rfl) (by simp) (fun hσ=>?_)
 have hh:True:=trivial
 have fin:∀ {a b:V} {τ:Store},V.tup [a,b]=.tup [.t (.int .i64 (cntK bk.Lines x.Key:Nat)),.t (.int .i64 (cntS bk.Lines x:Nat))]→(V.tup [a,b]).lt σ.length=true→retV σ.length (fun rr σ'=>rr=.tup [.t (.int .i64 (cntK bk.Lines x.Key:Nat)),.t (.int .i64 (cntS bk.Lines x:Nat))]∧σ'=σ) (σ++τ) (some [a,b]):=fun h h2=>ret_same rfl hσ h2 ⟨h,rfl⟩
 have fin0:∀ {a b:V},V.tup [a,b]=.tup [.t (.int .i64 (cntK bk.Lines x.Key:Nat)),.t (.int .i64 (cntS bk.Lines x:Nat))]→retV σ.length (fun rr σ'=>rr=.tup [.t (.int .i64 (cntK bk.Lines x.Key:Nat)),.t (.int .i64 (cntS bk.Lines x:Nat))]∧σ'=σ) σ (some [a,b]):=fun h=>ret_same0 rfl ⟨h,rfl⟩
 have hl:=hb.Lines.1
 simp -implicitDefEqProofs only [c_spec_l39Key,SheetBlock.vs,SheetLine.vs,zh,zZ,zA,zB,zC,zD,zE,zG,zH,zI,zJ,zK,if_true,if_false,reduceCtorEq,zW,zX,zY,za,zb]
 refine loop_s [6,7,8,2,3] [2,3] (fun k:Nat=>[(6,.t (.int .i64 (cntK (bk.Lines.take k) x.Key:Nat))),(7,.t (.int .i64 (cntS (bk.Lines.take k) x:Nat))),(8,.t (.int .i64 (k:Nat)))]) (fun _=>σ++[.box [.t (.str bk.Kind),.t (.str bk.Name),.t (.lst 2 (bk.Lines.map SheetLine.ts))],.box [.t (.str x.Key),.t (.lst 1 (x.Words.map tStr))]]) (fun k=>k≤bk.Lines.length) (fun k=>bk.Lines.length - k) 0 (σ.length+2) (fun _=>by simp) (by omega) (Nat.zero_le _) rfl rfl ?_
 rintro k hkl
 simp -implicitDefEqProofs only [keep,zh,zZ,zA,zB,zC,zD,zE,zG,zH,zI,zJ,zK,if_true,if_false,reduceCtorEq,zW,zX,zY,za,zb]
 refine cond_split (fun h1=>?_) (fun h1=>?_)
 ·obtain ⟨y,hy,hlt⟩:=at_of h1
  have more:=i64_succ (show k<4611686018427387904 by omega)
  have hyo:=hb.Lines.2 y (mem_at hy)
  have n1:=cntK_le bk.Lines k x.Key
  have n2:=cntS_le bk.Lines k x
  have m1:=i64_succ (show cntK (bk.Lines.take k) x.Key<4611686018427387904 by omega)
  have m2:=i64_succ (show cntS (bk.Lines.take k) x<4611686018427387904 by omega)
  have st1:=cntK_step hy x.Key
  have st2:=cntS_step hy x
  simp -implicitDefEqProofs only [hy,more,SheetLine.ts,zV,zd,zm,yA,zh,zZ,zA,zB,zC,zD,zE,zG,zH,zI,zJ,zK,if_true,if_false,reduceCtorEq,zW,zX,zY,za,zb]
  rcases he:(y.Key == x.Key) with _ | _
  ·simp -implicitDefEqProofs only [he,cond_t,cond_f,more,zV,zd,zm,yA,zh,zZ,zA,zB,zC,zD,zE,zG,zH,zI,zJ,zK,if_true,if_false,reduceCtorEq,zW,zX,zY,za,zb]
   rw [he] at st1 st2
   simp only [Bool.false_and,Bool.false_eq_true,if_false,Nat.add_zero] at st1 st2
   exact lk_s0 (k+1) (by simp) (by omega) rfl (by omega) (by omega) (by simp [keep,eget,st1,st2])
  ·have hw:=spec_l39Words y.Words x.Words hyo.Words hx.Words
   simp only [tStrs] at hw
   simp -implicitDefEqProofs only [he,hy,cond_t,cond_f,more,m1,SheetLine.ts,zV,zd,zm,yA,zh,zZ,zA,zB,zC,zD,zE,zG,zH,zI,zJ,zK,if_true,if_false,reduceCtorEq,zW,zX,zY,za,zb]
   refine call_pure (hw _) ?_
   rw [he] at st1 st2
   simp only [Bool.true_and,if_true] at st1 st2
   rcases hq:(y.Words == x.Words) with _ | _
   ·simp -implicitDefEqProofs only [he,cond_t,cond_f,more,m1,zV,zd,zm,yA,zh,zZ,zA,zB,zC,zD,zE,zG,zH,zI,zJ,zK,if_true,if_false,reduceCtorEq,zW,zX,zY,za,zb]
    rw [hq] at st2
    simp only [Bool.false_eq_true,if_false,Nat.add_zero] at st2
    exact lk_s0 (k+1) (by simp) (by omega) rfl (by omega) (by omega) (by simp [keep,eget,st1,st2])
   ·simp -implicitDefEqProofs only [he,cond_t,cond_f,more,m1,m2,zV,zd,zm,yA,zh,zZ,zA,zB,zC,zD,zE,zG,zH,zI,zJ,zK,if_true,if_false,reduceCtorEq,zW,zX,zY,za,zb]
    rw [hq] at st2
    simp only [if_true] at st2
    exact lk_s0 (k+1) (by simp) (by omega) rfl (by omega) (by omega) (by simp [keep,eget,st1,st2])
 ·have hkk:=end_of h1 hkl
  subst hkk
  simp -implicitDefEqProofs only [zZ,zA,zB,zC,zD,zE,zG,zH,zI,zJ,zK,if_true,if_false,reduceCtorEq,zW,zX,zY,za,zb]
  rw [List.take_of_length_le (Nat.le_refl _)]
  first | exact fin rfl rfl | exact fin0 rfl
def putIxB (bs:List SheetBlock) (b:SheetBlock):Nat:=(bs.takeWhile fun y=>ahead y b).length
def putS (bs:List SheetBlock) (b:SheetBlock):List SheetBlock:=bs.take (putIxB bs b)++[b]++bs.drop (putIxB bs b)
theorem putIxB_le (bs:List SheetBlock) (b:SheetBlock):putIxB bs b≤bs.length:=(List.takeWhile_prefix _).length_le
theorem putS_len (bs:List SheetBlock) (b:SheetBlock):(putS bs b).length=bs.length+1:=by
 have:=putIxB_le bs b
 simp only [putS,zt,List.length_take,List.length_drop,zj,zk]
 omega
theorem putS_mem {bs:List SheetBlock} {b y:SheetBlock} (h:y∈putS bs b):y=b∨y∈bs:=by
 simp only [putS,List.mem_append,List.mem_singleton] at h
 rcases h with (h | h) | h
 ·exact .inr (List.mem_of_mem_take h)
 ·exact .inl h
 ·exact .inr (List.mem_of_mem_drop h)
theorem put_ixB {x:SheetBlock}:∀ {ls:List SheetBlock} {k:Nat},k≤ls.length→(ls.take k).all (fun l=>ahead l x)=true→(∀ l,ls[k]?=some l→ahead l x=false)→putIxB ls x=k
 | [],k,hk,_,_=>by
  have:k=0:=by simpa using hk
  subst this; rfl
 | a::ls,0,_,_,h=>by
  have:=h a rfl
  simp [putIxB,this]
 | a::ls,k+1,hk,h,h2=>by
  simp only [z0,List.all_cons,yB] at h
  have ih:=put_ixB (x:=x) (ls:=ls) (k:=k) (by simpa using hk) h.2 (fun l hl=>h2 l (by simpa using hl))
  simp only [putIxB] at ih
  simp only [putIxB,List.takeWhile_cons,h.1,if_true,zj,ih]
def c_spec_l39PutBlock:C:=(.seq (.ops [⟨some 2,none,.box (.t 0)⟩,⟨some 3,none,.box (.t 1)⟩,⟨some 4,none,.new [.nils]⟩]) (.seq (.ops [⟨some 5,none,.mv (.c (.t (.int .i64 0)))⟩]) (.seq (.block 0 (.loop (.seq (.seq (.drawn [.mk 0 false ⟨some 6,none,.mv (.t 5)⟩ [],.mk 1 false ⟨some 7,none,.fieldAddr 0 (.t 2)⟩ [],.mk 2 false ⟨some 8,none,.load none (.t 7)⟩ [],.mk 3 false ⟨some 9,none,.len false (.t 8)⟩ [],.mk 4 false ⟨some 10,none,.bin .lss (.t 6) (.t 9)⟩ [],.mk 5 false ⟨some 11,none,.mv (.t 10)⟩ [],.mk 6 false ⟨some 12,some ⟨11,true⟩,.fieldAddr 0 (.t 2)⟩ [],.mk 7 false ⟨some 13,some ⟨11,true⟩,.load none (.t 12)⟩ [],.mk 8 false ⟨some 14,some ⟨11,true⟩,.mv (.t 5)⟩ [],.mk 9 false ⟨some 15,some ⟨11,true⟩,.indexAddr 3 (.t 13) (.t 14)⟩ [],.mk 10 false ⟨some 16,some ⟨11,true⟩,.load (some 3) (.t 15)⟩ [],.mk 11 false ⟨some 17,some ⟨11,true⟩,.load (some 3) (.t 3)⟩ [],.mk 12 false ⟨some 18,some ⟨11,true⟩,.call (.c (.fn (.func 40) [])) [.t 16,.t 17]⟩ [],.mk 13 false ⟨some 19,none,.pick (.t 11) (.t 18) (.c (.t (.bool false)))⟩ []]) (.cond (.t 19) .skip (.exit 0))) (.block 1 (.ops [⟨some 20,none,.mv (.t 5)⟩,⟨some 21,none,.bin .add (.t 20) (.c (.t (.int .i64 1)))⟩,⟨some 5,none,.mv (.t 21)⟩]))))) (.seq (.drawn [.mk 0 false ⟨some 22,none,.lit (some false) 3 0 [.t (.str []),.t (.str []),.nils] []⟩ [],.mk 1 false ⟨some 23,none,.fieldAddr 0 (.t 2)⟩ [],.mk 2 false ⟨some 24,none,.load none (.t 23)⟩ [],.mk 3 false ⟨some 25,none,.mv (.t 5)⟩ [],.mk 4 false ⟨some 26,none,.sliceSl 3 (.t 24) none (some (.t 25))⟩ [],.mk 6 false ⟨some 28,none,.load (some 3) (.t 3)⟩ [],.mk 7 false ⟨some 29,none,.lit (some false) 3 1 [.t (.str []),.t (.str []),.nils] [⟨0,.t 28⟩]⟩ [],.mk 9 false ⟨some 31,none,.fieldAddr 0 (.t 2)⟩ [],.mk 10 false ⟨some 32,none,.load none (.t 31)⟩ [],.mk 11 false ⟨some 33,none,.mv (.t 5)⟩ [],.mk 12 false ⟨some 34,none,.sliceSl 3 (.t 32) (some (.t 33)) none⟩ [],.mk 5 true ⟨some 27,none,.append 3 56 (.t 22) (.t 26)⟩ [⟨some 28,none,.load (some 3) (.t 3)⟩,⟨some 32,none,.load none (.t 31)⟩,⟨some 34,none,.sliceSl 3 (.t 32) (some (.t 33)) none⟩],.mk 8 true ⟨some 30,none,.append 3 56 (.t 27) (.t 29)⟩ [⟨some 32,none,.load none (.t 31)⟩,⟨some 34,none,.sliceSl 3 (.t 32) (some (.t 33)) none⟩],.mk 13 false ⟨some 35,none,.append 3 56 (.t 30) (.t 34)⟩ [],.mk 14 false ⟨some 36,none,.fieldAddr 0 (.t 2)⟩ [],.mk 15 false ⟨none,none,.store 1 (.t 36) (.t 35)⟩ []]) (.seq (.ops [⟨some 37,none,.load (some 1) (.t 2)⟩,⟨none,none,.store 1 (.t 4) (.t 37)⟩]) .ret)))))
theorem k_spec_l39PutBlock:comp Tryd.prog 38 (Tryd.f83.body.getD .skip)=some c_spec_l39PutBlock:=by kernel_rfl
set_option maxHeartbeats 16000000 in
theorem spec_l39PutBlock (bs:List SheetBlock) (hb:SheetBlock.OkS bs) (x:SheetBlock) (hxo:x.Ok) (σ:Store):ACalls Tryd.prog 83 [.agg [.t (.lst 3 (bs.map SheetBlock.ts))],.agg x.vs] σ fun r σ'=>r=.agg [.t (tSheetBlockS (putS bs x))]∧σ'=σ:=by
 refine acalls_frzL (ts:=[tSheetBlockS (putS bs x)]) ?_
 refine acalls_of Tryd.func83 (by decide +kernel) (code:=Tryd.f83.body.getD .skip) (n:=38) (c:=c_spec_l39PutBlock) (rs:=[(.cell 4 (some 1))]) rfl rfl k_spec_l39PutBlock (by kernel_rfl) (by simp) (fun hσ=>?_)
 have y1:=hb.1
 simp -implicitDefEqProofs only [c_spec_l39PutBlock,SheetBlock.vs,zh,zZ,zA,zB,zC,zD,zE,zG,zH,zI,zJ,zK,if_true,if_false,reduceCtorEq,zW,zX,zY,za,zb]
 refine loop_p [5,2,3,4] [2,3,4] (fun k:Nat=>[(5,.t (.int .i64 (k:Nat)))]) (fun k=>k≤bs.length∧(bs.take k).all (fun l=>ahead l x)=true) (fun k=>bs.length - k) 0 (by simp) ⟨Nat.zero_le _,rfl⟩ rfl ?_
 rintro k ⟨hk,hall⟩
 simp -implicitDefEqProofs only [keep,zh,zZ,zA,zB,zC,zD,zE,zG,zH,zI,zJ,zK,if_true,if_false,reduceCtorEq,zW,zX,zY,za,zb]
 rcases hd:decide ((k:Int)<((bs.length:Nat):Int)) with _ | _
 ·have hix:putIxB bs x=k:=put_ixB hk hall fun l hl=>by
   have:=(List.getElem?_eq_some_iff.1 hl).1
   simp at hd; omega
  simp -implicitDefEqProofs only [hd,cond_t,cond_f,zh,zZ,zA,zB,zC,zD,zE,zG,zH,zI,zJ,zK,if_true,if_false,reduceCtorEq,zW,zX,zY,za,zb]
  have hrow:∀ s':Store,rowsOf s' 3 (.rows 3 [[.t (.str x.Kind),.t (.str x.Name),.t (.lst 2 (x.Lines.map SheetLine.ts))]])=some [[.t (.str x.Kind),.t (.str x.Name),.t (.lst 2 (x.Lines.map SheetLine.ts))]]:=fun s'=>rowsOf_rows rfl
  have htl:List.take bs.length (bs.map SheetBlock.ts)=bs.map SheetBlock.ts:=List.take_of_length_le (by simp)
  have a1:((bs.map SheetBlock.ts).take k).length * 56≤maxBy:=by simp only [List.length_take,zh,maxBy]; omega
  have a2:((bs.map SheetBlock.ts).take k).length≤9223372036854775807:=by simp only [List.length_take,zh]; omega
  have a3:((bs.map SheetBlock.ts).drop k).length≤1048576:=by simp only [List.length_drop,zh]; omega
  have a4:((bs.map SheetBlock.ts).take k).length≤1048576:=by simp only [List.length_take,zh]; omega
  rw [htl]
  repeat ((with_reducible refine And.intro ?_ ?_); (· first | omega | exact a1 | assumption))
  obtain ⟨A,hA⟩:∃ A,A=(bs.map SheetBlock.ts).take k:=⟨_,rfl⟩
  obtain ⟨D,hD⟩:∃ D,D=(bs.map SheetBlock.ts).drop k:=⟨_,rfl⟩
  have aA:A.length≤1048576:=by rw [hA]; exact a4
  have aD:D.length≤1048576:=by rw [hD]; exact a3
  rw [← hA,← hD]
  have hrows:(putS bs x).map SheetBlock.ts=A++[x.ts]++D:=by rw [hA,hD]; simp [putS,hix,List.map_take,List.map_drop]
  have hbt:[tSheetBlockS (putS bs x)]=[.lst 3 (A++[x.ts]++D)]:=by simp only [tSheetBlockS,hrows]
  refine And.intro (fun he=>?_) (fun he=>?_)
  ·have hA0:A=[]:=by simpa using he
   simp -implicitDefEqProofs only [hrow,zZ,zA,zB,zC,zD,zE,zG,zH,zI,zJ,zK,if_true,if_false,reduceCtorEq,zW,zX,zY,za,zb]
   refine And.intro (by decide) (And.intro (fun h=>h.elim) fun _=>And.intro (by simp only [maxBy]; omega) (And.intro (by omega) ?_))
   refine fin_keep (by simp) ⟨_,_,rfl,rfl,?_⟩
   rw [hbt,hA0]
   simp only [SeesFL]
   refine ⟨_,_,rfl,seesF_rows (by omega) (by omega) ?_ (by simp; omega),rfl⟩
   rw [List.getElem?_append_right (by omega),Nat.add_sub_cancel_left]
   simp [SheetBlock.ts]
  ·simp -implicitDefEqProofs only [hrow,zZ,zA,zB,zC,zD,zE,zG,zH,zI,zJ,zK,if_true,if_false,reduceCtorEq,zW,zX,zY,za,zb]
   refine And.intro (by simp only [maxBy]; omega) (And.intro (by omega) (And.intro (.inr ?_) (And.intro (by simp only [maxBy]; omega) (And.intro (by omega) ?_))))
   ·refine ⟨fun _=>⟨_,_,rfl,rfl,?_⟩,fun _=>⟨_,_,rfl,rfl,?_⟩,trivial⟩
    ·simp -implicitDefEqProofs only [ev,eqK,evLoad,onV,onBox,ldV,zZ,zA,zB,zC,zD,zE,zG,zH,zI,zJ,zK,if_true,if_false,reduceCtorEq,zW,zX,zY,za,zb]
    ·simp -implicitDefEqProofs only [ev,eqK,onV,evSliceSl,evSlice,bnd,bndV,zV,zd,zh,htl,hk,zZ,zA,zB,zC,zD,zE,zG,zH,zI,zJ,zK,if_true,if_false,reduceCtorEq,zW,zX,zY,za,zb]
     rw [hD]
   refine fin_keep (by simp) ⟨_,_,rfl,rfl,?_⟩
   rw [hbt]
   simp only [SeesFL]
   refine ⟨_,_,rfl,seesF_rows (by omega) (by omega) ?_ (by simp; omega),rfl⟩
   rw [List.getElem?_append_right (by omega),Nat.add_sub_cancel_left]
   simp [SheetBlock.ts]
 ·obtain ⟨y,hx,hlt⟩:=at_of hd
  have hyo:=hb.2 y (List.mem_of_getElem? hx)
  have more:=i64_succ (show k<4611686018427387904 by omega)
  simp -implicitDefEqProofs only [hd,cond_t,cond_f,hx,more,zV,zd,zm,yA,zh,SheetBlock.ts,SheetBlock.vs,zZ,zA,zB,zC,zD,zE,zG,zH,zI,zJ,zK,if_true,if_false,reduceCtorEq,zW,zX,zY,za,zb]
  have hll:=spec_l39Ahead y x hyo hxo
  simp only [SheetBlock.vs] at hll
  refine call_pure (hll _) ?_
  rcases hl:ahead y x with _ | _
  ·have hix:putIxB bs x=k:=put_ixB hk hall fun l hl'=>by rw [hx] at hl'; cases hl'; exact hl
   simp -implicitDefEqProofs only [hd,cond_t,cond_f,hx,more,zV,zd,zm,yA,zh,SheetBlock.ts,SheetBlock.vs,zZ,zA,zB,zC,zD,zE,zG,zH,zI,zJ,zK,if_true,if_false,reduceCtorEq,zW,zX,zY,za,zb]
   have hrow:∀ s':Store,rowsOf s' 3 (.rows 3 [[.t (.str x.Kind),.t (.str x.Name),.t (.lst 2 (x.Lines.map SheetLine.ts))]])=some [[.t (.str x.Kind),.t (.str x.Name),.t (.lst 2 (x.Lines.map SheetLine.ts))]]:=fun s'=>rowsOf_rows rfl
   have htl:List.take bs.length (bs.map SheetBlock.ts)=bs.map SheetBlock.ts:=List.take_of_length_le (by simp)
   have a1:((bs.map SheetBlock.ts).take k).length * 56≤maxBy:=by simp only [List.length_take,zh,maxBy]; omega
   have a2:((bs.map SheetBlock.ts).take k).length≤9223372036854775807:=by simp only [List.length_take,zh]; omega
   have a3:((bs.map SheetBlock.ts).drop k).length≤1048576:=by simp only [List.length_drop,zh]; omega
   have a4:((bs.map SheetBlock.ts).take k).length≤1048576:=by simp only [List.length_take,zh]; omega
   rw [htl]
   repeat ((with_reducible refine And.intro ?_ ?_); (· first | omega | exact a1 | assumption))
   obtain ⟨A,hA⟩:∃ A,A=(bs.map SheetBlock.ts).take k:=⟨_,rfl⟩
   obtain ⟨D,hD⟩:∃ D,D=(bs.map SheetBlock.ts).drop k:=⟨_,rfl⟩
   have aA:A.length≤1048576:=by rw [hA]; exact a4
   have aD:D.length≤1048576:=by rw [hD]; exact a3
   rw [← hA,← hD]
   have hrows:(putS bs x).map SheetBlock.ts=A++[x.ts]++D:=by rw [hA,hD]; simp [putS,hix,List.map_take,List.map_drop]
   have hbt:[tSheetBlockS (putS bs x)]=[.lst 3 (A++[x.ts]++D)]:=by simp only [tSheetBlockS,hrows]
   refine And.intro (fun he=>?_) (fun he=>?_)
   ·have hA0:A=[]:=by simpa using he
    simp -implicitDefEqProofs only [hrow,zZ,zA,zB,zC,zD,zE,zG,zH,zI,zJ,zK,if_true,if_false,reduceCtorEq,zW,zX,zY,za,zb]
    refine And.intro (by decide) (And.intro (fun h=>h.elim) fun _=>And.intro (by simp only [maxBy]; omega) (And.intro (by omega) ?_))
    refine fin_keep (by simp) ⟨_,_,rfl,rfl,?_⟩
    rw [hbt,hA0]
    simp only [SeesFL]
    refine ⟨_,_,rfl,seesF_rows (by omega) (by omega) ?_ (by simp; omega),rfl⟩
    rw [List.getElem?_append_right (by omega),Nat.add_sub_cancel_left]
    simp [SheetBlock.ts]
   ·simp -implicitDefEqProofs only [hrow,zZ,zA,zB,zC,zD,zE,zG,zH,zI,zJ,zK,if_true,if_false,reduceCtorEq,zW,zX,zY,za,zb]
    refine And.intro (by simp only [maxBy]; omega) (And.intro (by omega) (And.intro (.inr ?_) (And.intro (by simp only [maxBy]; omega) (And.intro (by omega) ?_))))
    ·refine ⟨fun _=>⟨_,_,rfl,rfl,?_⟩,fun _=>⟨_,_,rfl,rfl,?_⟩,trivial⟩
     ·simp -implicitDefEqProofs only [ev,eqK,evLoad,onV,onBox,ldV,zZ,zA,zB,zC,zD,zE,zG,zH,zI,zJ,zK,if_true,if_false,reduceCtorEq,zW,zX,zY,za,zb]
     ·simp -implicitDefEqProofs only [ev,eqK,onV,evSliceSl,evSlice,bnd,bndV,zV,zd,zh,htl,hk,zZ,zA,zB,zC,zD,zE,zG,zH,zI,zJ,zK,if_true,if_false,reduceCtorEq,zW,zX,zY,za,zb]
      rw [hD]
    refine fin_keep (by simp) ⟨_,_,rfl,rfl,?_⟩
    rw [hbt]
    simp only [SeesFL]
    refine ⟨_,_,rfl,seesF_rows (by omega) (by omega) ?_ (by simp; omega),rfl⟩
    rw [List.getElem?_append_right (by omega),Nat.add_sub_cancel_left]
    simp [SheetBlock.ts]
  ·simp -implicitDefEqProofs only [hd,cond_t,cond_f,hx,more,zV,zd,zm,yA,zh,SheetBlock.ts,SheetBlock.vs,zZ,zA,zB,zC,zD,zE,zG,zH,zI,zJ,zK,if_true,if_false,reduceCtorEq,zW,zX,zY,za,zb]
   first
    | exact lk_p0 (k+1) (by simp) (by simp) (by omega) ⟨by omega,all_step hx hall hl⟩ rfl
    | exact lk_p (k+1) (by simp) (by simp) hσ rfl (by omega) ⟨by omega,all_step hx hall hl⟩ rfl rfl
    | exact lk_pm (k+1) (Nat.le_refl _) (by simp) hσ rfl rfl (by omega) ⟨by omega,all_step hx hall hl⟩ (by simp [ltE,keep,eget,V.lt]) rfl
end Go.Proofs.YtnnnemgbgilfaaaDoor.W
end
section
open Go Go.Ab
set_option maxHeartbeats 2000000
namespace Go.Proofs.YtnnnemgbgilfaaaDoor.W
abbrev IntQ (n:Nat) (r:V):Prop:=∃ x:Nat,r=.t (.int .i64 (x:Nat))∧x<n
theorem d_pick (l:List UInt8) (hl:l.length≤2000) (id n:Nat) (hn:1≤n) (hn2:n≤1000000):DrawC Tryd.prog 47 [.ptr id 0,.t (.int .i64 (n:Nat))] l id 1 (IntQ n):=by
 intro A p hid hp
 refine (pick_n l hl p n id (by omega) hn hn2 _ (ds_id0 hid)).mono ?_
 rintro r s ⟨x,rfl,hx,rfl⟩
 exact ⟨p+1,by omega,by omega,by rw [List.set_set],x,rfl,hx⟩
structure SmL (x:SheetLine):Prop where
 key:x.Key.length≤20
 n:x.Words.length≤9
 ws:∀ w∈x.Words,w.length≤201
structure SmB (n:Nat) (b:SheetBlock):Prop where
 kind:b.Kind.length≤20
 name:b.Name.length≤30
 n:b.Lines.length≤n
 ls:∀ x∈b.Lines,SmL x
theorem SmL.ok {x:SheetLine} (h:SmL x):x.Ok:=⟨by have:=h.key; omega,by have:=h.n; omega,fun w hw=>by have:=h.ws w hw; omega⟩
theorem SmB.ok {n:Nat} {b:SheetBlock} (h:SmB n b) (hn:n≤1048576):b.Ok:=⟨by have:=h.kind; omega,by have:=h.name; omega,by have:=h.n; omega,fun x hx=>(h.ls x hx).ok⟩
theorem SmB.mono {n m:Nat} {b:SheetBlock} (h:SmB n b) (hn:n≤m):SmB m b:=⟨h.kind,h.name,by have:=h.n; omega,h.ls⟩
theorem put_sm {n:Nat} {b:SheetBlock} {x:SheetLine} (hb:SmB n b) (hx:SmL x):SmB (n+1) (putR b x):=by
 have hix:putIx b.Kind b.Lines x≤b.Lines.length:=(List.takeWhile_prefix _).length_le
 refine ⟨hb.kind,hb.name,?_,fun y hy=>?_⟩
 ·have:=hb.n
  simp only [putR,zt,List.length_take,List.length_drop,zj,zk]
  omega
 ·simp only [putR,List.mem_append,List.mem_singleton] at hy
  rcases hy with (hy | rfl) | hy
  ·exact hb.ls y (List.mem_of_mem_take hy)
  ·exact hx
  ·exact hb.ls y (List.mem_of_mem_drop hy)
theorem split_set {A s:Store} {id:Nat} {o:Go.Ab.Obj} (hid:id<A.length) (hl:A.length≤s.length) (h1:s[id]?=some o) (h2:∀ j,j<A.length→j≠id→s[j]?=A[j]?):s=A.set id o++s.drop A.length:=by
 conv=>lhs; rw [← List.take_append_drop A.length s]
 congr 1
 apply List.ext_getElem?
 intro j
 by_cases hj:j<A.length
 ·rw [List.getElem?_take_of_lt hj]
  by_cases e:j=id
  ·subst e; rw [h1,List.getElem?_set_self hj]
  ·rw [h2 j hj e,List.getElem?_set_ne (fun h=>e h.symm)]
 ·rw [List.getElem?_eq_none (by simp; omega),List.getElem?_eq_none (by simp; omega)]
def LineQ (kind:List UInt8) (r:V):Prop:=∃ x:SheetLine,r=.agg x.vs∧SmL x∧∃ ru∈rulesR kind,ru.Key=x.Key
theorem d_line (l:List UInt8) (hl:l.length≤2000) (id:Nat) (kind:List UInt8) (hk:kindOk kind=true):DrawC Tryd.prog 98 [.ptr id 0,.t (.str kind)] l id 40 (LineQ kind):=by
 intro A p hid hp
 refine acalls_draw ?_
 refine (draw_lineK l hl p id (by omega) kind hk _ (ds_id0 hid)).mono ?_
 rintro r s ⟨key,ws,v,is,q,rfl,hru,h1,h2,h3,hdw⟩
 have hle:=hdw.le
 have hw:=hdw.wi.2
 simp only [zl] at hle hw
 refine ⟨q,s.drop A.length,.agg (SheetLine.mk key ws).vs,h3.1,h3.2,?_,.inl (.inr ⟨(SheetLine.mk key ws).ts,_,rfl,rfl,?_⟩),⟨key,ws⟩,rfl,⟨by simp only; omega,by simp only; omega,hdw.sm⟩,hru⟩
 ·refine split_set hid hle hdw.rd fun j hj hji=>?_
  rw [hdw.kp j (by simpa using hj) (by simpa using hji),List.getElem?_set_ne (fun h=>hji h.symm)]
 ·simp only [SheetLine.ts,SeesFL]
  exact ⟨_,_,rfl,seesF_t _,_,_,rfl,hdw.own.seesF fun i hi=>(hw i hi).1,rfl⟩
theorem acalls_weak {P:Program} {f:FuncId} {us vs:List V} {σ:Store} {R:V→Store→Prop} (hc:∀ x cargs,VsRel x us cargs→VsRel x vs cargs) (h:ACalls P f vs σ R):ACalls P f us σ R:=⟨h.1,fun x cargs hσ hx ha=>h.2 x cargs hσ hx (hc x cargs ha)⟩
def LV (n:Nat) (rows:List (List T)) (lv:V):Prop:=lv=.t (.lst n rows)∨(rows=[]∧lv=.nils)
theorem LV.one {n:Nat} {rows:List (List T)} {lv:V} (h:LV n rows lv):Go.Ab.one lv=true:=by
 rcases h with rfl | ⟨_,rfl⟩ <;> rfl
theorem LV.rel {n:Nat} {rows:List (List T)} {lv:V} (h:LV n rows lv) {x:Cx} {v:Value} (hv:VRel x lv v):VRel x (.t (.lst n rows)) v:=by
 rcases h with rfl | ⟨rfl,rfl⟩
 ·exact hv
 ·simp only [VRel] at hv
  subst hv
  simp only [VRel,TRel]
  exact ⟨none,0,rfl,Nat.le_refl _,.inl rfl⟩
theorem LV.lt {n:Nat} {rows:List (List T)} {lv:V} (h:LV n rows lv) (m:Nat):lv.lt m=true:=by
 rcases h with rfl | ⟨_,rfl⟩ <;> rfl
theorem lv_block {b:SheetBlock} {lv:V} (h:LV 2 (b.Lines.map SheetLine.ts) lv) (x:Cx) (us:List V) (cargs:List Value) (ha:VsRel x (.agg [.t (.str b.Kind),.t (.str b.Name),lv]::us) cargs):VsRel x (.agg b.vs::us) cargs:=by
 simp only [VsRel] at ha ⊢
 obtain ⟨c,cs,rfl,hc,hcs⟩:=ha
 refine ⟨c,cs,rfl,?_,hcs⟩
 simp only [VRel,VsRel,SheetBlock.vs] at hc ⊢
 obtain ⟨l,rfl,c1,l1,rfl,h1,c2,l2,rfl,h2,c3,l3,rfl,h3,rfl⟩:=hc
 exact ⟨_,rfl,_,_,rfl,h1,_,_,rfl,h2,_,_,rfl,h.rel h3,rfl⟩
theorem i64_pred {n:Nat} (h:1≤n) (h2:n<4611686018427387904):IntKind.i64.wrap ((n:Int) - 1)=((n - 1:Nat):Int):=by
 rw [IntWalk.i64_in _ (by omega)]; omega
structure Gb where
 k:Nat
 q:Nat
 b:SheetBlock
 lv:V
def BlockQ (n:Nat) (r:V):Prop:=∃ b:SheetBlock,r=.agg b.vs∧SmB n b∧kindOk b.Kind=true
def c_spec_l39DrawBlock:C:=(.seq (.ops [⟨some 2,none,.new [.t (.str []),.t (.str []),.nils]⟩]) (.seq (.drawnP 3 [.t (.str []),.t (.str []),.nils] [.mk 0 false ⟨some 8,none,.lit (some false) 1 4 [.t (.str [])] [⟨0,.c (.t (.str [116,101,97,109]))⟩,⟨1,.c (.t (.str [98,101,114,116,104]))⟩,⟨2,.c (.t (.str [115,101,114,118,105,99,101]))⟩,⟨3,.c (.t (.str [115,101,114,118,105,99,101]))⟩]⟩ [],.mk 1 false ⟨some 9,none,.mv (.t 0)⟩ [],.mk 5 false ⟨some 13,none,.lit (some false) 1 4 [.t (.str [])] [⟨0,.c (.t (.str [97]))⟩,⟨1,.c (.t (.str [98]))⟩,⟨2,.c (.t (.str [119,101,98]))⟩,⟨3,.c (.t (.str [100,98,45,49]))⟩]⟩ [],.mk 6 false ⟨some 14,none,.mv (.t 0)⟩ [],.mk 2 true ⟨some 10,none,.call (.c (.fn (.func 47) [])) [.t 9,.c (.t (.int .i64 4))]⟩ [⟨some 3,none,.newP [.t (.str []),.t (.str []),.nils]⟩],.mk 3 false ⟨some 11,none,.indexAddr 1 (.t 8) (.t 10)⟩ [],.mk 4 false ⟨some 12,none,.load none (.t 11)⟩ [],.mk 7 true ⟨some 15,none,.call (.c (.fn (.func 47) [])) [.t 14,.c (.t (.int .i64 4))]⟩ [⟨some 3,none,.newP [.t (.str []),.t (.str []),.nils]⟩,⟨some 11,none,.indexAddr 1 (.t 8) (.t 10)⟩,⟨some 12,none,.load none (.t 11)⟩],.mk 8 false ⟨some 16,none,.indexAddr 1 (.t 13) (.t 15)⟩ [],.mk 9 false ⟨some 17,none,.load none (.t 16)⟩ [],.mk 10 false ⟨some 18,none,.build [.t (.str []),.t (.str []),.nils] [⟨0,⟨1,.t 12⟩⟩,⟨1,⟨1,.t 17⟩⟩]⟩ [],.mk 12 false ⟨none,none,.store 3 (.t 3) (.t 18)⟩ []]) (.seq (.seq (.ops [⟨some 19,none,.mv (.t 0)⟩,⟨some 20,none,.call (.c (.fn (.func 47) [])) [.t 19,.c (.t (.int .i64 8))]⟩,⟨some 4,none,.mv (.t 20)⟩]) (.block 0 (.loop (.seq (.seq (.ops [⟨some 21,none,.mv (.t 4)⟩,⟨some 22,none,.bin .gtr (.t 21) (.c (.t (.int .i64 0)))⟩]) (.cond (.t 22) .skip (.exit 0))) (.seq (.block 1 (.seq (.ops [⟨some 25,none,.mv (.t 0)⟩,⟨some 26,none,.fieldAddr 0 (.t 3)⟩,⟨some 27,none,.load none (.t 26)⟩,⟨some 28,none,.call (.c (.fn (.func 98) [])) [.t 25,.t 27]⟩,⟨some 5,none,.new [.t (.str []),.nils]⟩,⟨none,none,.store 2 (.t 5) (.t 28)⟩]) (.seq (.ops [⟨some 30,none,.load (some 3) (.t 3)⟩,⟨some 31,none,.load (some 2) (.t 5)⟩,⟨some 32,none,.call (.c (.fn (.func 99) [])) [.t 30,.t 31]⟩,⟨some 29,none,.mv (.t 32)⟩,⟨some 33,none,.extract (.t 29) 0⟩,⟨some 34,none,.extract (.t 29) 1⟩,⟨some 6,none,.mv (.t 33)⟩,⟨some 7,none,.mv (.t 34)⟩]) (.seq (.drawn [.mk 0 false ⟨some 35,none,.mv (.t 7)⟩ [],.mk 1 false ⟨some 36,none,.bin .eql (.t 35) (.c (.t (.int .i64 0)))⟩ [],.mk 2 false ⟨some 37,none,.mv (.t 36)⟩ [],.mk 3 false ⟨some 38,some ⟨37,true⟩,.mv (.t 6)⟩ [],.mk 4 false ⟨some 39,some ⟨37,true⟩,.bin .eql (.t 38) (.c (.t (.int .i64 0)))⟩ [],.mk 5 false ⟨some 40,some ⟨37,true⟩,.mv (.t 39)⟩ [],.mk 6 false ⟨some 41,some ⟨40,false⟩,.fieldAddr 0 (.t 3)⟩ [],.mk 7 false ⟨some 42,some ⟨40,false⟩,.load none (.t 41)⟩ [],.mk 9 false ⟨some 44,some ⟨40,false⟩,.fieldAddr 0 (.t 3)⟩ [],.mk 10 false ⟨some 45,some ⟨40,false⟩,.load none (.t 44)⟩ [],.mk 11 false ⟨some 46,some ⟨40,false⟩,.fieldAddr 0 (.t 5)⟩ [],.mk 12 false ⟨some 47,some ⟨40,false⟩,.load none (.t 46)⟩ [],.mk 8 true ⟨some 43,some ⟨40,false⟩,.call (.c (.fn (.func 33) [])) [.t 42]⟩ [⟨some 45,some ⟨40,false⟩,.load none (.t 44)⟩,⟨some 47,some ⟨40,false⟩,.load none (.t 46)⟩],.mk 13 false ⟨some 48,some ⟨40,false⟩,.call (.c (.fn (.func 36) [])) [.t 45,.t 47]⟩ [],.mk 14 false ⟨some 49,some ⟨40,false⟩,.indexAddr 4 (.t 43) (.t 48)⟩ [],.mk 15 false ⟨some 50,some ⟨40,false⟩,.fieldAddr 2 (.t 49)⟩ [],.mk 16 false ⟨some 51,some ⟨40,false⟩,.load none (.t 50)⟩ [],.mk 17 false ⟨some 52,some ⟨37,true⟩,.pick (.t 40) (.c (.t (.bool true))) (.t 51)⟩ [],.mk 18 false ⟨some 53,none,.pick (.t 37) (.t 52) (.c (.t (.bool false)))⟩ []]) (.cond (.t 53) (.ops [⟨some 54,none,.load (some 3) (.t 3)⟩,⟨some 55,none,.load (some 2) (.t 5)⟩,⟨some 56,none,.call (.c (.fn (.func 35) [])) [.t 54,.t 55]⟩,⟨none,none,.store 3 (.t 3) (.t 56)⟩]) .skip))))) (.ops [⟨some 23,none,.mv (.t 4)⟩,⟨some 24,none,.bin .sub (.t 23) (.c (.t (.int .i64 1)))⟩,⟨some 4,none,.mv (.t 24)⟩])))))) (.seq (.ops [⟨some 57,none,.load (some 3) (.t 3)⟩,⟨none,none,.store 3 (.t 2) (.t 57)⟩]) .ret))))
theorem k_spec_l39DrawBlock:comp Tryd.prog 58 (Tryd.f82.body.getD .skip)=some c_spec_l39DrawBlock:=by kernel_rfl
theorem d_block (l:List UInt8) (hl:l.length≤2000) (id:Nat) :DrawC Tryd.prog 82 [.ptr id 0] l id 300 (BlockQ 7):=by
 intro A p hid hp
 refine acalls_draw ?_
 refine acalls_of Tryd.func82 (by decide +kernel) (code:=Tryd.f82.body.getD .skip) (n:=58) (c:=c_spec_l39DrawBlock) (rs:=[(.cell 2 (some 3))]) rfl rfl k_spec_l39DrawBlock (by kernel_rfl) (by simp) (fun hσ=>?_)
 simp -implicitDefEqProofs only [zL,zM,zN,zO,zP,zQ hid,zR hid,zS hid,zT,zl,zU,yA,zj,zk,ze,zf,true_and,zV,zd,zh,zr,zn,zo,zp,zq,c_spec_l39DrawBlock,zZ,zA,zB,zC,zD,zE,zG,zH,zI,zJ,zK,if_true,if_false,reduceCtorEq,zW,zX,zY,za,zb]
 refine call_draw (d_pick l hl id 4 (by omega) (by omega)) hid (by omega) ?_
 rintro r q1 hq1a hq1b ⟨x1,rfl,hx1⟩
 obtain ⟨kd,hkd,hkok,hkl⟩:∃ kd:List UInt8,([[V.t (.str [116,101,97,109])],[.t (.str [98,101,114,116,104])],[.t (.str [115,101,114,118,105,99,101])],[.t (.str [115,101,114,118,105,99,101])]]:List (List V))[x1]?=some [.t (.str kd)]∧kindOk kd=true∧kd.length≤20:=by
  rcases (by omega:x1=0∨x1=1∨x1=2∨x1=3) with rfl | rfl | rfl | rfl <;> exact ⟨_,rfl,by decide,by decide⟩
 simp -implicitDefEqProofs only [zL,zM,zN,zO,zP,zQ hid,zR hid,zS hid,zT,zl,zU,yA,zj,zk,ze,zf,true_and,zV,zd,zh,zr,zn,zo,zp,zq,zZ,zA,zB,zC,zD,zE,zG,zH,zI,zJ,zK,if_true,if_false,reduceCtorEq,zW,zX,zY,za,zb]
 refine And.intro (.inr ⟨fun _=>⟨_,_,rfl,rfl,A.length+1,by simp -implicitDefEqProofs only [zL,zM,zN,zO,zP,zQ hid,zR hid,zS hid,zT,zl,zU,yA,zj,zk,ze,zf,true_and,zV,zd,zh,zr,zn,zo,zp,zq,zZ,zA,zB,zC,zD,zE,zG,zH,zI,zJ,zK,if_true,if_false,reduceCtorEq,zW,zX,zY,za,zb],rfl,rfl⟩,trivial⟩) ?_
 simp -implicitDefEqProofs only [zL,zM,zN,zO,zP,zQ hid,zR hid,zS hid,zT,zl,zU,yA,zj,zk,ze,zf,true_and,zV,zd,zh,zr,zn,zo,zp,zq,hkd,zZ,zA,zB,zC,zD,zE,zG,zH,zI,zJ,zK,if_true,if_false,reduceCtorEq,zW,zX,zY,za,zb]
 refine call_draw (d_pick l hl id 4 (by omega) (by omega)) hid (by omega) ?_
 rintro r q2 hq2a hq2b ⟨x2,rfl,hx2⟩
 obtain ⟨nm,hnm,hnl⟩:∃ nm:List UInt8,([[V.t (.str [97])],[.t (.str [98])],[.t (.str [119,101,98])],[.t (.str [100,98,45,49])]]:List (List V))[x2]?=some [.t (.str nm)]∧nm.length≤30:=by
  rcases (by omega:x2=0∨x2=1∨x2=2∨x2=3) with rfl | rfl | rfl | rfl <;> exact ⟨_,rfl,by decide⟩
 simp -implicitDefEqProofs only [zL,zM,zN,zO,zP,zQ hid,zR hid,zS hid,zT,zl,zU,yA,zj,zk,ze,zf,true_and,zV,zd,zh,zr,zn,zo,zp,zq,zZ,zA,zB,zC,zD,zE,zG,zH,zI,zJ,zK,if_true,if_false,reduceCtorEq,zW,zX,zY,za,zb]
 refine And.intro (.inr ⟨fun _=>⟨_,_,rfl,rfl,A.length+1,by simp -implicitDefEqProofs only [zL,zM,zN,zO,zP,zQ hid,zR hid,zS hid,zT,zl,zU,yA,zj,zk,ze,zf,true_and,zV,zd,zh,zr,zn,zo,zp,zq,zZ,zA,zB,zC,zD,zE,zG,zH,zI,zJ,zK,if_true,if_false,reduceCtorEq,zW,zX,zY,za,zb],rfl,rfl⟩,fun _=>⟨_,_,rfl,rfl,?_⟩,fun _=>⟨_,_,rfl,rfl,?_⟩,trivial⟩) ?_
 ·simp -implicitDefEqProofs only [ev,eqK,onV,evIndexAddr,onRow,toTs,hkd,zV,zd,zZ,zA,zB,zC,zD,zE,zG,zH,zI,zJ,zK,if_true,if_false,reduceCtorEq,zW,zX,zY,za,zb]
 ·simp -implicitDefEqProofs only [ev,eqK,onV,evLoad,ldT,ldV,zZ,zA,zB,zC,zD,zE,zG,zH,zI,zJ,zK,if_true,if_false,reduceCtorEq,zW,zX,zY,za,zb]
 simp -implicitDefEqProofs only [zL,zM,zN,zO,zP,zQ hid,zR hid,zS hid,zT,zl,zU,yA,zj,zk,ze,zf,true_and,zV,zd,zh,zr,zn,zo,zp,zq,hnm,zZ,zA,zB,zC,zD,zE,zG,zH,zI,zJ,zK,if_true,if_false,reduceCtorEq,zW,zX,zY,za,zb]
 refine call_draw (d_pick l hl id 8 (by omega) (by omega)) hid (by omega) ?_
 rintro r q3 hq3a hq3b ⟨n0,rfl,hn0⟩
 simp -implicitDefEqProofs only [zL,zM,zN,zO,zP,zQ hid,zR hid,zS hid,zT,zl,zU,yA,zj,zk,ze,zf,true_and,zV,zd,zh,zr,zn,zo,zp,zq,zZ,zA,zB,zC,zD,zE,zG,zH,zI,zJ,zK,if_true,if_false,reduceCtorEq,zW,zX,zY,za,zb]
 refine loop_s [4,0,2,3] [0,2,3] (fun g:Gb=>[(4,.t (.int .i64 (g.k:Nat)))]) (fun g=>A.set id (.box (rdW l g.q))++[.box [.t (.str []),.t (.str []),.nils],.box [.t (.str g.b.Kind),.t (.str g.b.Name),g.lv]]) (fun g=>g.k≤7∧g.b.Kind=kd∧SmB (7 - g.k) g.b∧LV 2 (g.b.Lines.map SheetLine.ts) g.lv∧q3≤g.q∧g.q+40 * g.k≤q3+280) (fun g=>g.k) ⟨n0,q3,⟨kd,nm,[]⟩,.nils⟩ (A.length+2) (fun g=>by simp) (by simp) ⟨by simp only; omega,rfl,⟨hkl,hnl,by simp,by simp⟩,.inr ⟨rfl,rfl⟩,Nat.le_refl _,by simp only; omega⟩ rfl rfl ?_
 rintro ⟨k,q,b,lv⟩ ⟨g1,g2,g3,g4,g5,g6⟩
 simp only at g1 g2 g3 g4 g5 g6
 have ol:=g4.one
 simp -implicitDefEqProofs only [keep,zh,zZ,zA,zB,zC,zD,zE,zG,zH,zI,zJ,zK,if_true,if_false,reduceCtorEq,zW,zX,zY,za,zb]
 refine cond_split (fun c0=>?_) (fun c0=>?_)
 ·have hk1:1≤k:=by simp at c0; omega
  have dec:=i64_pred (n:=k) hk1 (by omega)
  simp -implicitDefEqProofs only [zL,zM,zN,zO,zP,zQ hid,zR hid,zS hid,zT,zl,zU,yA,zj,zk,ze,zf,true_and,zV,zd,zh,zr,zn,zo,zp,zq,ol,zZ,zA,zB,zC,zD,zE,zG,zH,zI,zJ,zK,if_true,if_false,reduceCtorEq,zW,zX,zY,za,zb]
  first | refine call_draw (d_line l hl id b.Kind (by rw [g2]; exact hkok)) hid (by omega) ?_ | refine call_draw0 (d_line l hl id b.Kind (by rw [g2]; exact hkok)) hid (by omega) ?_
  rintro r q4 hq4a hq4b ⟨x,rfl,hx,ru,hru,hrk⟩
  simp -implicitDefEqProofs only [zL,zM,zN,zO,zP,zQ hid,zR hid,zS hid,zT,zl,zU,yA,zj,zk,ze,zf,true_and,zV,zd,zh,zr,zn,zo,zp,zq,ol,SheetLine.vs,zZ,zA,zB,zC,zD,zE,zG,zH,zI,zJ,zK,if_true,if_false,reduceCtorEq,zW,zX,zY,za,zb]
  have bok:=g3.ok (by omega)
  have xok:=hx.ok
  have hkey:∀ σ:Store,ACalls Tryd.prog 99 [.agg [.t (.str b.Kind),.t (.str b.Name),lv],.agg [.t (.str x.Key),.t (.lst 1 (x.Words.map tStr))]] σ fun r s=>r=.tup [.t (.int .i64 (cntK b.Lines x.Key:Nat)),.t (.int .i64 (cntS b.Lines x:Nat))]∧s=σ:=fun σ=>acalls_weak (fun y ca h=>lv_block g4 y _ ca h) (spec_l39Key b bok x xok σ)
  have hput:∀ σ:Store,ACalls Tryd.prog 35 [.agg [.t (.str b.Kind),.t (.str b.Name),lv],.agg [.t (.str x.Key),.t (.lst 1 (x.Words.map tStr))]] σ fun r s=>r=.agg (putR b x).vs∧s=σ:=fun σ=>acalls_weak (fun y ca h=>lv_block g4 y _ ca h) (spec_l39PutLine b bok x xok σ)
  have psm:=put_sm g3 hx
  obtain ⟨i,hi,hri⟩:=List.getElem_of_mem hru
  have hri':(rulesR b.Kind)[i]?=some ru:=by rw [← hri]; exact List.getElem?_eq_getElem hi
  have hix:ruleIx b.Kind x.Key=((i:Nat):Int):=by rw [← hrk]; exact ix_rule hri'
  have hlt2:ltσ (A.length+2) (A.set id (.box (rdW l q4)))=true:=ltσ_mono (by simp) (lt_set hσ rfl)
  refine call_pure (hkey _) ?_
  rcases hS:(((cntS b.Lines x:Nat):Int) == 0) with _ | _
  ·simp -implicitDefEqProofs only [zL,zM,zN,zO,zP,zQ hid,zR hid,zS hid,zT,zl,zU,yA,zj,zk,ze,zf,true_and,zV,zd,zh,zr,zn,zo,zp,zq,hS,ol,dec,cond_t,cond_f,zZ,zA,zB,zC,zD,zE,zG,zH,zI,zJ,zK,if_true,if_false,reduceCtorEq,zW,zX,zY,za,zb]
   exact lk_s ⟨k - 1,q4,b,lv⟩ (by simp) (by simp) (by rw [List.append_assoc]; rfl) (by simp only; omega) ⟨by simp only; omega,g2,g3.mono (by simp only; omega),g4,by simp only; omega,by simp only; omega⟩ (by rw [q_ltσ_app,hlt2]; simp [ltσ,Ab.Obj.lt,V.lts,V.lt,g4.lt]) (by simp [ltE,keep,eget,V.lt]; omega) (by simp [keep,eget])
  rcases hK:(((cntK b.Lines x.Key:Nat):Int) == 0) with _ | _
  ·simp -implicitDefEqProofs only [zL,zM,zN,zO,zP,zQ hid,zR hid,zS hid,zT,zl,zU,yA,zj,zk,ze,zf,true_and,zV,zd,zh,zr,zn,zo,zp,zq,hS,hK,ol,dec,cond_t,cond_f,zZ,zA,zB,zC,zD,zE,zG,zH,zI,zJ,zK,if_true,if_false,reduceCtorEq,zW,zX,zY,za,zb]
   refine call_pure (spec_SheetRules b.Kind _) ?_
   simp -implicitDefEqProofs only [zL,zM,zN,zO,zP,zQ hid,zR hid,zS hid,zT,zl,zU,yA,zj,zk,ze,zf,true_and,zV,zd,zh,zr,zn,zo,zp,zq,hS,hK,ol,dec,cond_t,cond_f,zZ,zA,zB,zC,zD,zE,zG,zH,zI,zJ,zK,if_true,if_false,reduceCtorEq,zW,zX,zY,za,zb]
   refine call_pure (spec_l38Rule b.Kind x.Key _) ?_
   rw [hix]
   simp -implicitDefEqProofs only [zL,zM,zN,zO,zP,zQ hid,zR hid,zS hid,zT,zl,zU,yA,zj,zk,ze,zf,true_and,zV,zd,zh,zr,zn,zo,zp,zq,hS,hK,ol,dec,hri',tSheetRuleS,SheetRule.ts,zm,cond_t,cond_f,zZ,zA,zB,zC,zD,zE,zG,zH,zI,zJ,zK,if_true,if_false,reduceCtorEq,zW,zX,zY,za,zb]
   rcases hm:ru.Many with _ | _
   ·simp -implicitDefEqProofs only [zL,zM,zN,zO,zP,zQ hid,zR hid,zS hid,zT,zl,zU,yA,zj,zk,ze,zf,true_and,zV,zd,zh,zr,zn,zo,zp,zq,hS,hK,hm,ol,dec,cond_t,cond_f,zZ,zA,zB,zC,zD,zE,zG,zH,zI,zJ,zK,if_true,if_false,reduceCtorEq,zW,zX,zY,za,zb]
    exact lk_s ⟨k - 1,q4,b,lv⟩ (by simp) (by simp) (by rw [List.append_assoc]; rfl) (by simp only; omega) ⟨by simp only; omega,g2,g3.mono (by simp only; omega),g4,by simp only; omega,by simp only; omega⟩ (by rw [q_ltσ_app,hlt2]; simp [ltσ,Ab.Obj.lt,V.lts,V.lt,g4.lt]) (by simp [ltE,keep,eget,V.lt]; omega) (by simp [keep,eget])
   ·simp -implicitDefEqProofs only [zL,zM,zN,zO,zP,zQ hid,zR hid,zS hid,zT,zl,zU,yA,zj,zk,ze,zf,true_and,zV,zd,zh,zr,zn,zo,zp,zq,hS,hK,hm,ol,dec,cond_t,cond_f,zZ,zA,zB,zC,zD,zE,zG,zH,zI,zJ,zK,if_true,if_false,reduceCtorEq,zW,zX,zY,za,zb]
    refine call_pure (hput _) ?_
    simp -implicitDefEqProofs only [zL,zM,zN,zO,zP,zQ hid,zR hid,zS hid,zT,zl,zU,yA,zj,zk,ze,zf,true_and,zV,zd,zh,zr,zn,zo,zp,zq,hS,hK,hm,ol,dec,SheetBlock.vs,cond_t,cond_f,zZ,zA,zB,zC,zD,zE,zG,zH,zI,zJ,zK,if_true,if_false,reduceCtorEq,zW,zX,zY,za,zb]
    exact lk_s ⟨k - 1,q4,putR b x,.t (.lst 2 ((putR b x).Lines.map SheetLine.ts))⟩ (by simp) (by simp) (by rw [List.append_assoc]; rfl) (by simp only; omega) ⟨by simp only; omega,g2,psm.mono (by simp only; omega),.inl rfl,by simp only; omega,by simp only; omega⟩ (by rw [q_ltσ_app,hlt2]; simp [ltσ,Ab.Obj.lt,V.lts,V.lt,g4.lt]) (by simp [ltE,keep,eget,V.lt]; omega) (by simp [keep,eget])
  ·simp -implicitDefEqProofs only [zL,zM,zN,zO,zP,zQ hid,zR hid,zS hid,zT,zl,zU,yA,zj,zk,ze,zf,true_and,zV,zd,zh,zr,zn,zo,zp,zq,hS,hK,ol,dec,cond_t,cond_f,zZ,zA,zB,zC,zD,zE,zG,zH,zI,zJ,zK,if_true,if_false,reduceCtorEq,zW,zX,zY,za,zb]
   refine call_pure (hput _) ?_
   simp -implicitDefEqProofs only [zL,zM,zN,zO,zP,zQ hid,zR hid,zS hid,zT,zl,zU,yA,zj,zk,ze,zf,true_and,zV,zd,zh,zr,zn,zo,zp,zq,hS,hK,ol,dec,SheetBlock.vs,cond_t,cond_f,zZ,zA,zB,zC,zD,zE,zG,zH,zI,zJ,zK,if_true,if_false,reduceCtorEq,zW,zX,zY,za,zb]
   exact lk_s ⟨k - 1,q4,putR b x,.t (.lst 2 ((putR b x).Lines.map SheetLine.ts))⟩ (by simp) (by simp) (by rw [List.append_assoc]; rfl) (by simp only; omega) ⟨by simp only; omega,g2,psm.mono (by simp only; omega),.inl rfl,by simp only; omega,by simp only; omega⟩ (by rw [q_ltσ_app,hlt2]; simp [ltσ,Ab.Obj.lt,V.lts,V.lt,g4.lt]) (by simp [ltE,keep,eget,V.lt]; omega) (by simp [keep,eget])
 ·simp -implicitDefEqProofs only [zL,zM,zN,zO,zP,zQ hid,zR hid,zS hid,zT,zl,zU,yA,zj,zk,ze,zf,true_and,zV,zd,zh,zr,zn,zo,zp,zq,ol,zZ,zA,zB,zC,zD,zE,zG,zH,zI,zJ,zK,if_true,if_false,reduceCtorEq,zW,zX,zY,za,zb]
  refine fin_draw (by omega) (by omega) (.inl (.inr ⟨b.ts,_,rfl,rfl,?_⟩)) ⟨b,rfl,g3.mono (by omega),by rw [g2]; exact hkok⟩
  simp only [SheetBlock.ts,SeesFL]
  refine ⟨_,_,rfl,seesF_t _,_,_,rfl,seesF_t _,_,_,rfl,?_,rfl⟩
  rcases g4 with rfl | ⟨g7,rfl⟩
  ·exact seesF_t _
  ·rw [g7]; exact seesF_nils (by omega)
end Go.Proofs.YtnnnemgbgilfaaaDoor.W
end
