/- The rules of the keys. Conditions: none. -/
/- The rules of the keys: the program's own. Conditions: none. -/
import Derived.Test.YtnnnemgbgilfaaaDoorSheetSplit
import Derived.Test.YtnnnemgbgilfaaaDoorTypesSheetD
import Derived.Test.YtnnnemgbgilfaaaDoorAb4
set_option linter.unusedSimpArgs false
set_option linter.unusedVariables false
set_option linter.defProp false
open Go.Ab renaming eget → zC, env0 → zD, isNilP → zI, isNilS → zJ, lenSl → zH, lenStr → zG, nat_nn → zV, opv → zA, opvs → zB, putAt → zK, setD → zE
open List renaming length_append → zt, length_cons → zj, length_map → zh, length_nil → zk, map_cons → zu
open Nat renaming reduceAdd → zb, reduceEqDiff → zX, reduceLeDiff → zW, reduceMul → za, reduceSub → zY
section
open Go Go.Ab
set_option maxHeartbeats 2000000
namespace Go.Proofs.YtnnnemgbgilfaaaDoor.W
theorem splitB_hit (c:UInt8):∀ (s:List UInt8) (k:Nat),(s.take k).count c=0→s[k]?=some c→splitB c s=s.take k::splitB c (s.drop (k+1))
 | [],k,_,h=>by simp at h
 | x::r,0,_,h=>by
  obtain rfl:x=c:=by simpa using h
  rw [splitB,if_pos (by simp)]; rfl
 | x::r,k+1,h0,h=>by
  have hx:¬ (x == c)=true:=fun e=>by rw [List.take_succ_cons,List.count_cons,if_pos e] at h0; omega
  rw [List.take_succ_cons,List.count_cons,if_neg hx] at h0
  have ih:=splitB_hit c r k h0 (by simpa using h)
  rw [splitB,if_neg hx,ih]
  simp
theorem rowsOf_rows {σ:Store} {n:Nat} {rs:List (List V)} (h:(rs.all fun r=>r.all one)=true):rowsOf σ n (.rows n rs)=some rs:=by
 simp [rowsOf,h]
theorem own_flatAt {s:Store} {n id m:Nat} {rows:List (List T)} (hp:0<n) (h:flat rows) (hm:m=rows.length) (ho:s[id]?=some (tObj n rows)):Own s (.lst n rows) (.sl id m 0 m) [id]:=by
 have hs:s=s.take id++(tObj n rows::s.drop (id+1)):=by
  obtain ⟨hl,he⟩:=List.getElem?_eq_some_iff.1 ho
  rw [← he,List.getElem_cons_drop,List.take_append_drop]
 have hl:=(List.getElem?_eq_some_iff.1 ho).1
 have h1:=own_flat (s:=s.take id) hp h hm
 rw [List.length_take,Nat.min_eq_left (by omega)] at h1
 refine h1.frame fun i hi=>?_
 obtain rfl:i=id:=by simpa using hi
 rw [ho,List.getElem?_append_right (by simp; omega)]
 simp [Nat.min_eq_left (show i≤s.length by omega)]
theorem tStr_flat (l:List (List UInt8)):flat (l.map tStr):=by
 intro r hr t ht
 obtain ⟨n,_,rfl⟩:=List.mem_map.1 hr
 obtain rfl:t=.str n:=by simpa [tStr] using ht
 rfl
theorem tInts_flat (l:List Int):flat (l.map tInt):=by
 intro r hr t ht
 obtain ⟨n,_,rfl⟩:=List.mem_map.1 hr
 obtain rfl:t=.int .i64 n:=by simpa [tInt] using ht
 rfl
theorem tInts_rows (l:List Int):(Go.Ab.Obj.slc 1 (l.map fun n=>[V.t (.int .i64 n)]))=tObj 1 (l.map tInt):=by
 simp [tObj,tInt]
def vD (a:Nat) (l:List (List UInt8)):V:=if l=[] then .nils else .sl a l.length 0 l.length
def oD (l:List (List UInt8)):Store:=if l=[] then [] else [tObj 1 (l.map tStr)]
def intsV (ag:List Int):List (List V):=ag.map fun n=>[.t (.int .i64 n)]
def stD (σ:Store) (key:List UInt8) (ag:List Int) (l:List (List UInt8)):Store:=σ++([.box [.t (.str []),.nils,.t (.bool false),.nils],.slc 1 (intsV ag),.box [.t (.str key),.sl (σ.length+1) ag.length 0 ag.length,.t (.bool false),vD (σ.length+3) l]]++oD l)
def c_spec_l38One:C:=(.seq (.ops [⟨some 6,none,.new [.t (.str []),.nils,.t (.bool false),.nils]⟩]) (.seq (.ops [⟨some 10,none,.mv (.t 0)⟩,⟨some 11,none,.lit none 1 0 [.t (.int .i64 0)] []⟩,⟨some 12,none,.mv (.t 2)⟩,⟨some 13,none,.append 1 8 (.t 11) (.t 12)⟩,⟨some 14,none,.build [.t (.str []),.nils,.t (.bool false),.nils] [⟨0,⟨1,.t 10⟩⟩,⟨1,⟨1,.t 13⟩⟩]⟩,⟨some 7,none,.new [.t (.str []),.nils,.t (.bool false),.nils]⟩,⟨none,none,.store 4 (.t 7) (.t 14)⟩]) (.seq (.ops [⟨some 8,none,.mv (.c (.t (.int .i64 0)))⟩]) (.seq (.seq (.ops [⟨some 9,none,.mv (.c (.t (.int .i64 0)))⟩]) (.block 0 (.loop (.seq (.seq (.ops [⟨some 15,none,.mv (.t 9)⟩,⟨some 16,none,.mv (.t 1)⟩,⟨some 17,none,.len true (.t 16)⟩,⟨some 18,none,.bin .leq (.t 15) (.t 17)⟩]) (.cond (.t 18) .skip (.exit 0))) (.seq (.block 1 (.seq (.ops [⟨some 21,none,.mv (.t 9)⟩,⟨some 22,none,.mv (.t 1)⟩,⟨some 23,none,.len true (.t 22)⟩,⟨some 24,none,.bin .eql (.t 21) (.t 23)⟩,⟨some 25,none,.mv (.t 24)⟩,⟨some 26,some ⟨25,false⟩,.mv (.t 1)⟩,⟨some 27,some ⟨25,false⟩,.mv (.t 9)⟩,⟨some 28,some ⟨25,false⟩,.index (.t 26) (.t 27)⟩,⟨some 29,some ⟨25,false⟩,.bin .eql (.t 28) (.c (.t (.int .u8 32)))⟩,⟨some 30,none,.pick (.t 25) (.c (.t (.bool true))) (.t 29)⟩]) (.cond (.t 30) (.seq (.drawn [.mk 0 false ⟨some 31,none,.fieldAddr 3 (.t 7)⟩ [],.mk 1 false ⟨some 32,none,.load none (.t 31)⟩ [],.mk 2 false ⟨some 33,none,.mv (.t 1)⟩ [],.mk 3 false ⟨some 34,none,.mv (.t 8)⟩ [],.mk 4 false ⟨some 35,none,.mv (.t 9)⟩ [],.mk 5 false ⟨some 36,none,.sliceStr (.t 33) (some (.t 34)) (some (.t 35))⟩ [],.mk 6 false ⟨some 37,none,.lit (some false) 1 1 [.t (.str [])] [⟨0,.t 36⟩]⟩ [],.mk 7 false ⟨some 38,none,.append 1 16 (.t 32) (.t 37)⟩ [],.mk 8 false ⟨some 39,none,.fieldAddr 3 (.t 7)⟩ [],.mk 9 false ⟨none,none,.store 1 (.t 39) (.t 38)⟩ []]) (.ops [⟨some 40,none,.mv (.t 9)⟩,⟨some 41,none,.bin .add (.t 40) (.c (.t (.int .i64 1)))⟩,⟨some 8,none,.mv (.t 41)⟩])) .skip))) (.ops [⟨some 19,none,.mv (.t 9)⟩,⟨some 20,none,.bin .add (.t 19) (.c (.t (.int .i64 1)))⟩,⟨some 9,none,.mv (.t 20)⟩])))))) (.seq (.ops [⟨some 42,none,.load (some 4) (.t 7)⟩,⟨none,none,.store 4 (.t 6) (.t 42)⟩]) .ret)))))
theorem k_spec_l38One:comp Tryd.prog 43 (Tryd.f61.body.getD .skip)=some c_spec_l38One:=by kernel_rfl
set_option maxHeartbeats 8000000 in
theorem spec_l38One (key value:List UInt8) (ag:List Int) (hs:value.length≤1048576) (ha:ag.length≤1048576) (h0:ag≠[]) (σ:Store):ACalls Tryd.prog 61 [.t (.str key),.t (.str value),.rows 1 (intsV ag)] σ fun r σ'=>r=.agg (SheetRule.mk key ag false (splitB 32 value)).vs∧σ'=σ:=by
 refine acalls_frzTL (ts:=(SheetRule.mk key ag false (splitB 32 value)).ts) ?_
 refine acalls_of Tryd.func61 (by decide +kernel) (code:=Tryd.f61.body.getD .skip) (n:=43) (c:=c_spec_l38One) (rs:=[(.cell 6 (some 4))]) rfl rfl k_spec_l38One (by kernel_rfl) (by simp) (fun hσ=>?_)
 have hrw:∀ s,rowsOf s 1 (.rows 1 (intsV ag))=some (intsV ag):=fun s=>rowsOf_rows (by simp [intsV,Go.Ab.one])
 have hl:(intsV ag).length=ag.length:=by simp [intsV]
 have p1:ag.length * 8≤maxBy:=by simp only [maxBy]; omega
 have p2:ag.length≤9223372036854775807:=by omega
 simp -implicitDefEqProofs only [c_spec_l38One,hrw,p1,p2,cond_t,cond_f,zZ,zA,zB,zC,zD,zE,zG,zH,zI,zJ,zK,if_true,if_false,reduceCtorEq,zW,zX,zY,za,zb]
 refine lit_rows ?_
 simp -implicitDefEqProofs only [hrw,hl,p1,p2,cond_t,cond_f,zZ,zA,zB,zC,zD,zE,zG,zH,zI,zJ,zK,if_true,if_false,reduceCtorEq,zW,zX,zY,za,zb]
 refine ⟨fun e=>absurd e (by simp [intsV,h0]),fun _=>?_⟩
 refine loop_g [8,9,1,6,7] [1,6,7] (fun x:Nat × Nat × List (List UInt8)=>[(8,.t (.int .i64 (x.1:Nat))),(9,.t (.int .i64 (x.2.1:Nat)))]) (fun x=>stD σ key ag x.2.2) (fun x=>x.2.2.length≤x.2.1∧(x.2.1=value.length+1∧x.2.2=splitB 32 value∨x.2.1≤value.length∧x.1≤x.2.1∧splitB 32 value=x.2.2++splitB 32 (value.drop x.1)∧((value.drop x.1).take (x.2.1 - x.1)).count 32=0)) (fun x=>value.length+1 - x.2.1) (0,0,[]) (by simp) ⟨Nat.zero_le _,.inr ⟨Nat.zero_le _,Nat.le_refl _,rfl,rfl⟩⟩ (by simp [stD,vD,oD]) rfl ?_
 rintro ⟨fr,i,l⟩ ⟨hli,hI⟩
 simp only at hli hI
 simp -implicitDefEqProofs only [keep,zZ,zA,zB,zC,zD,zE,zG,zH,zI,zJ,zK,if_true,if_false,reduceCtorEq,zW,zX,zY,za,zb]
 refine cond_split (fun h1=>?_) (fun h1=>?_)
 ·have hi:i≤value.length:=by simpa using h1
  obtain ⟨_,hfr,hsp,hct⟩:=hI.resolve_left (by omega)
  have pi:=i64_succ (show i<4611686018427387904 by omega)
  have q1:(l.length+1) * 16≤maxBy:=by simp only [maxBy]; omega
  have q2:l.length+1≤9223372036854775807:=by omega
  have q5:l.length≤9223372036854775806:=by omega
  have q3:1 * 16≤maxBy:=by simp only [maxBy]; omega
  have q4:1≤9223372036854775807:=by omega
  have next:∀ w,value.drop fr=w++value.drop i→w.count 32=0→True:=fun _ _ _=>trivial
  simp -implicitDefEqProofs only [zZ,zA,zB,zC,zD,zE,zG,zH,zI,zJ,zK,if_true,if_false,reduceCtorEq,zW,zX,zY,za,zb]
  have go:∀ w:List UInt8,(value.take i).drop fr=w→(i+1=value.length+1∧l++[w]=splitB 32 value∨i+1≤value.length∧i+1≤i+1∧splitB 32 value=(l++[w])++splitB 32 (value.drop (i+1))∧((value.drop (i+1)).take (i+1 - (i+1))).count 32=0)→(l++[w]).length≤i+1∧(i+1=value.length+1∧l++[w]=splitB 32 value∨i+1≤value.length∧i+1≤i+1∧splitB 32 value=(l++[w])++splitB 32 (value.drop (i+1))∧((value.drop (i+1)).take (i+1 - (i+1))).count 32=0):=fun w _ h=>⟨by simp; omega,h⟩
  have hw:(value.take i).drop fr=(value.drop fr).take (i - fr):=List.drop_take ..
  have c1:(0:Nat)<1:=by omega
  have hrow:∀ (s:Store) (w:List UInt8),rowsOf s 1 (.rows 1 [[.t (.str w)]])=some [[.t (.str w)]]:=fun s w=>rowsOf_rows rfl
  have z1:(0:Nat)≤i:=Nat.zero_le _
  refine cond_known (fun h2=>?_) (fun h2=>?_)
  ·simp -implicitDefEqProofs only [h2,cond_t,cond_f,zZ,zA,zB,zC,zD,zE,zG,zH,zI,zJ,zK,if_true,if_false,reduceCtorEq,zW,zX,zY,za,zb]
   have hiv:i=value.length:=by have:(i:Int)=value.length:=(by simpa [Known] using h2); omega
   have hnx:l++[(value.take i).drop fr]=splitB 32 value:=by
    rw [hsp,hw,splitB_none 32 (value.drop fr)]
    ·rw [List.take_of_length_le (by simp; omega)]
    ·rw [List.take_of_length_le (by simp; omega)] at hct; exact hct
   have hg:=go _ rfl (.inl ⟨by omega,hnx⟩)
   by_cases hl0:l=[]
   ·subst hl0
    have e1:∀ a,vD a []=.nils:=fun _=>rfl
    have e2:oD []=[]:=rfl
    simp -implicitDefEqProofs only [h2,cond_t,cond_f,stD,e1,e2,hrow,c1,q1,q2,q3,q4,q5,pi,zV,hfr,hi,z1,zZ,zA,zB,zC,zD,zE,zG,zH,zI,zJ,zK,if_true,if_false,reduceCtorEq,zW,zX,zY,za,zb]
    refine lk_g (i+1,i+1,[(value.take i).drop fr]) (by simp only; omega) hg (by simp) (by simp [stD,vD,oD,tStr,tObj]) (by simp [keep,eget,pi])
   ·have e1:∀ a,vD a l=.sl a l.length 0 l.length:=fun a=>if_neg hl0
    have e2:oD l=[tObj 1 (l.map tStr)]:=if_neg hl0
    simp -implicitDefEqProofs only [h2,cond_t,cond_f,stD,e1,e2,hrow,c1,q1,q2,q3,q4,q5,pi,zV,hfr,hi,z1,tObj,zh,zZ,zA,zB,zC,zD,zE,zG,zH,zI,zJ,zK,if_true,if_false,reduceCtorEq,zW,zX,zY,za,zb]
    refine lk_g (i+1,i+1,l++[(value.take i).drop fr]) (by simp only; omega) hg (by simp) (by simp [stD,vD,oD,hl0,tStr,tObj]) (by simp [keep,eget,pi])
  ·simp -implicitDefEqProofs only [h2,cond_t,cond_f,zZ,zA,zB,zC,zD,zE,zG,zH,zI,zJ,zK,if_true,if_false,reduceCtorEq,zW,zX,zY,za,zb]
   have hlt:i<value.length:=by have:¬ (i:Int)=value.length:=(by simpa [Known] using h2); omega
   obtain ⟨y,hy⟩:∃ y,value[i]?=some y:=⟨value[i],by simp [hlt]⟩
   have hdy:(value.drop fr)[i - fr]?=some y:=by rw [List.getElem?_drop,show fr+(i - fr)=i by omega]; exact hy
   simp -implicitDefEqProofs only [h2,hy,zV,z1,cond_t,cond_f,zZ,zA,zB,zC,zD,zE,zG,zH,zI,zJ,zK,if_true,if_false,reduceCtorEq,zW,zX,zY,za,zb]
   refine cond_known (fun h3=>?_) (fun h3=>?_)
   ·simp -implicitDefEqProofs only [h3,cond_t,cond_f,zZ,zA,zB,zC,zD,zE,zG,zH,zI,zJ,zK,if_true,if_false,reduceCtorEq,zW,zX,zY,za,zb]
    obtain rfl:y=32:=by
     have:(y.toNat:Int)=32:=by simpa [Known] using h3
     exact UInt8.toNat.inj (by simp; omega)
    have hsh:=splitB_hit 32 (value.drop fr) (i - fr) hct hdy
    rw [List.drop_drop,show fr+(i - fr+1)=i+1 by omega] at hsh
    have hg:=go _ rfl (.inr ⟨by omega,Nat.le_refl _,by rw [hsp,hsh,hw]; simp,by simp⟩)
    by_cases hl0:l=[]
    ·subst hl0
     have e1:∀ a,vD a []=.nils:=fun _=>rfl
     have e2:oD []=[]:=rfl
     simp -implicitDefEqProofs only [h3,cond_t,cond_f,stD,e1,e2,hrow,c1,q1,q2,q3,q4,q5,pi,zV,hfr,hi,z1,zZ,zA,zB,zC,zD,zE,zG,zH,zI,zJ,zK,if_true,if_false,reduceCtorEq,zW,zX,zY,za,zb]
     refine lk_g (i+1,i+1,[(value.take i).drop fr]) (by simp only; omega) hg (by simp) (by simp [stD,vD,oD,tStr,tObj]) (by simp [keep,eget,pi])
    ·have e1:∀ a,vD a l=.sl a l.length 0 l.length:=fun a=>if_neg hl0
     have e2:oD l=[tObj 1 (l.map tStr)]:=if_neg hl0
     simp -implicitDefEqProofs only [h3,cond_t,cond_f,stD,e1,e2,hrow,c1,q1,q2,q3,q4,q5,pi,zV,hfr,hi,z1,tObj,zh,zZ,zA,zB,zC,zD,zE,zG,zH,zI,zJ,zK,if_true,if_false,reduceCtorEq,zW,zX,zY,za,zb]
     refine lk_g (i+1,i+1,l++[(value.take i).drop fr]) (by simp only; omega) hg (by simp) (by simp [stD,vD,oD,hl0,tStr,tObj]) (by simp [keep,eget,pi])
   ·simp -implicitDefEqProofs only [h3,cond_t,cond_f,zZ,zA,zB,zC,zD,zE,zG,zH,zI,zJ,zK,if_true,if_false,reduceCtorEq,zW,zX,zY,za,zb]
    have hy32:¬ y=32:=fun e=>by subst e; simp [Known] at h3
    refine lk_g (fr,i+1,l) (by simp only; omega) ⟨by simp only; omega,.inr ⟨by simp only; omega,by simp only; omega,hsp,?_⟩⟩ (by simp [stD]) rfl (by simp [keep,eget,pi])
    rw [show i+1 - fr=i - fr+1 by omega,List.take_add_one,List.count_append,hct,hdy]
    simp [hy32]
 ·have hi:i=value.length+1∧l=splitB 32 value:=hI.resolve_right fun h=>absurd h.1 (by simpa using h1)
  obtain ⟨_,hl⟩:=hi
  have hne:l≠[]:=by rw [hl]; intro e; have:=splitB_len 32 value; rw [e] at this; simp at this
  have e1:vD (σ.length+3) l=.sl (σ.length+3) l.length 0 l.length:=if_neg hne
  have e2:oD l=[tObj 1 (l.map tStr)]:=if_neg hne
  simp -implicitDefEqProofs only [stD,e1,e2,zZ,zA,zB,zC,zD,zE,zG,zH,zI,zJ,zK,if_true,if_false,reduceCtorEq,zW,zX,zY,za,zb]
  have o1:∀ τ:Store,τ[1]?=some (.slc 1 (intsV ag))→Own (σ++τ) (tInts ag) (.sl (σ.length+1) ag.length 0 ag.length) [σ.length+1]:=fun τ h=>own_flatAt (by omega) (tInts_flat ag) (by simp) (by rw [List.getElem?_append_right (by omega),Nat.add_sub_cancel_left,h]; exact congrArg some (tInts_rows ag))
  have o2:∀ τ:Store,τ[3]?=some (tObj 1 (l.map tStr))→Own (σ++τ) (tStrs l) (.sl (σ.length+3) l.length 0 l.length) [σ.length+3]:=fun τ h=>own_flatAt (by omega) (tStr_flat l) (by simp) (by rw [List.getElem?_append_right (by omega),Nat.add_sub_cancel_left,h])
  refine fin_keep (by simp) ⟨_,_,[σ.length+1,σ.length+3],rfl,rfl,?_,?_⟩
  ·simp only [SheetRule.ts,OwnL,Own,← hl]
   exact ⟨_,_,[],[σ.length+1,σ.length+3],rfl,rfl,⟨rfl,rfl⟩,_,_,[σ.length+1],[σ.length+3],rfl,rfl,o1 _ rfl,_,_,[],[σ.length+3],rfl,rfl,⟨rfl,rfl⟩,_,_,[σ.length+3],[],rfl,rfl,o2 _ rfl,rfl,rfl⟩
  ·exact ⟨by simp,fun j hj=>by simp at hj ⊢; omega⟩
def c_spec_l38Many:C:=(.seq (.ops [⟨some 4,none,.new [.t (.str []),.nils,.t (.bool false),.nils]⟩]) (.seq (.ops [⟨some 5,none,.mv (.t 0)⟩,⟨some 6,none,.lit none 1 0 [.t (.int .i64 0)] []⟩,⟨some 7,none,.mv (.t 1)⟩,⟨some 8,none,.append 1 8 (.t 6) (.t 7)⟩,⟨some 9,none,.build [.t (.str []),.nils,.t (.bool false),.nils] [⟨0,⟨1,.t 5⟩⟩,⟨1,⟨1,.t 8⟩⟩,⟨2,⟨1,.c (.t (.bool true))⟩⟩]⟩,⟨none,none,.store 4 (.t 4) (.t 9)⟩]) .ret))
theorem k_spec_l38Many:comp Tryd.prog 10 (Tryd.f62.body.getD .skip)=some c_spec_l38Many:=by kernel_rfl
theorem spec_l38Many (key:List UInt8) (ag:List Int) (ha:ag.length≤1048576) (h0:ag≠[]) (σ:Store):ACalls Tryd.prog 62 [.t (.str key),.rows 1 (intsV ag)] σ fun r σ'=>r=.agg (SheetRule.mk key ag true []).vs∧σ'=σ:=by
 refine acalls_frzTL (ts:=(SheetRule.mk key ag true []).ts) ?_
 refine acalls_of Tryd.func62 (by decide +kernel) (code:=Tryd.f62.body.getD .skip) (n:=10) (c:=c_spec_l38Many) (rs:=[(.cell 4 (some 4))]) rfl rfl k_spec_l38Many (by kernel_rfl) (by simp) (fun hσ=>?_)
 have hrw:∀ s,rowsOf s 1 (.rows 1 (intsV ag))=some (intsV ag):=fun s=>rowsOf_rows (by simp [intsV,Go.Ab.one])
 have hl:(intsV ag).length=ag.length:=by simp [intsV]
 have p1:ag.length * 8≤maxBy:=by simp only [maxBy]; omega
 have p2:ag.length≤9223372036854775807:=by omega
 simp -implicitDefEqProofs only [c_spec_l38Many,hrw,p1,p2,cond_t,cond_f,zZ,zA,zB,zC,zD,zE,zG,zH,zI,zJ,zK,if_true,if_false,reduceCtorEq,zW,zX,zY,za,zb]
 refine lit_rows ?_
 simp -implicitDefEqProofs only [hrw,hl,p1,p2,cond_t,cond_f,zZ,zA,zB,zC,zD,zE,zG,zH,zI,zJ,zK,if_true,if_false,reduceCtorEq,zW,zX,zY,za,zb]
 refine ⟨fun e=>absurd e (by simp [intsV,h0]),fun _=>?_⟩
 refine fin_keep (by simp) ⟨_,_,[σ.length+1],rfl,rfl,?_,?_⟩
 ·simp only [SheetRule.ts,OwnL,Own]
  have o1:∀ τ:Store,τ[1]?=some (.slc 1 (intsV ag))→Own (σ++τ) (tInts ag) (.sl (σ.length+1) ag.length 0 ag.length) [σ.length+1]:=fun τ h=>own_flatAt (by omega) (tInts_flat ag) (by simp) (by rw [List.getElem?_append_right (by omega),Nat.add_sub_cancel_left,h]; exact congrArg some (tInts_rows ag))
  exact ⟨_,_,[],[σ.length+1],rfl,rfl,⟨rfl,rfl⟩,_,_,[σ.length+1],[],rfl,rfl,o1 _ rfl,_,_,[],[],rfl,rfl,⟨rfl,rfl⟩,_,_,[],[],rfl,rfl,⟨by omega,.inl ⟨rfl,rfl,.inl rfl⟩⟩,rfl,rfl⟩
 ·exact ⟨by simp,fun j hj=>by simp at hj ⊢; omega⟩
def rules_team:List SheetRule:=[⟨[99,111,112,105,101,115],[1],false,[[49,48,48]]⟩,⟨[114,111,111,109],[1],false,[[49,48,48,48]]⟩]
def rules_berth:List SheetRule:=[⟨[122,111,110,101],[3],false,[[122]]⟩,⟨[114,111,111,109],[1],false,[[49,48,48]]⟩,⟨[104,111,108,100],[1],false,[[49,48,48]]⟩,⟨[109,97,114,107],[3],true,[]⟩]
def rules_service:List SheetRule:=[⟨[116,101,97,109],[3],false,[[99,111,114,101]]⟩,⟨[105,109,97,103,101],[1],false,[[49]]⟩,⟨[119,97,110,116],[1],false,[[49]]⟩,⟨[100,111,119,110],[1],false,[[49]]⟩,⟨[111,118,101,114],[1],false,[[48]]⟩,⟨[110,101,101,100,115],[1,1],false,[[49],[49]]⟩,⟨[119,104,101,114,101],[4],false,[[]]⟩,⟨[108,105,107,101],[4,2],true,[]⟩,⟨[97,112,97,114,116],[6],false,[[110,111,110,101]]⟩,⟨[118,111,108,117,109,101],[5],false,[[110,111]]⟩,⟨[102,111,108,108,111,119],[1,1,1],false,[[48],[48],[48]]⟩,⟨[112,97,99,101],[1,1,1],false,[[48],[48],[48]]⟩]
def rulesR (kind:List UInt8):List SheetRule:=if kind == [116,101,97,109] then rules_team else if kind == [98,101,114,116,104] then rules_berth else if kind == [115,101,114,118,105,99,101] then rules_service else []
def kindOk (kind:List UInt8):Bool:=kind == [116,101,97,109] || kind == [98,101,114,116,104] || kind == [115,101,114,118,105,99,101]
theorem rulesR_none {kind:List UInt8} (h:kindOk kind=false):rulesR kind=[]:=by
 simp only [kindOk,Bool.or_eq_false_iff] at h
 simp only [rulesR,h.1.1,h.1.2,h.2]
 rfl
theorem rulesR_some {kind:List UInt8} (h:kindOk kind=true):rulesR kind=rules_team∧kind=[116,101,97,109]∨rulesR kind=rules_berth∧kind=[98,101,114,116,104]∨rulesR kind=rules_service∧kind=[115,101,114,118,105,99,101]:=by
 simp only [kindOk,Bool.or_eq_true,beq_iff_eq] at h
 rcases h with (rfl | rfl) | rfl
 ·exact .inl ⟨rfl,rfl⟩
 ·exact .inr (.inl ⟨rfl,rfl⟩)
 ·exact .inr (.inr ⟨rfl,rfl⟩)
theorem seesF_rowsv {n sz:Nat} {σ:Store} {rows:List (List T)} (hp:0<sz):SeesF n σ (.lst sz rows) (.rows sz (rows.map fun r=>r.map .t)):=by
 simp only [SeesF]
 exact .inr ⟨hp,(fun _ _ _ _ e=>by cases e),_,rowsOf_rows (by simp [Go.Ab.one]),seesFR_t rows⟩
def c_spec_SheetRules:C:=(.seq (.ops [⟨some 2,none,.mv (.c .nils)⟩]) (.seq (.seq (.ops [⟨some 3,none,.mv (.t 0)⟩]) (.block 0 (.seq (.ops [⟨some 5,none,.bin .eql (.t 3) (.c (.t (.str [116,101,97,109])))⟩,⟨some 4,none,.mv (.t 5)⟩]) (.cond (.t 4) (.seq (.ops [⟨some 6,none,.lit none 1 1 [.t (.int .i64 0)] [⟨0,.c (.t (.int .i64 1))⟩]⟩,⟨some 7,none,.call (.c (.fn (.func 61) [])) [.c (.t (.str [99,111,112,105,101,115])),.c (.t (.str [49,48,48])),.t 6]⟩,⟨some 8,none,.lit none 1 1 [.t (.int .i64 0)] [⟨0,.c (.t (.int .i64 1))⟩]⟩,⟨some 9,none,.call (.c (.fn (.func 61) [])) [.c (.t (.str [114,111,111,109])),.c (.t (.str [49,48,48,48])),.t 8]⟩,⟨some 10,none,.lit none 4 2 [.t (.str []),.nils,.t (.bool false),.nils] [⟨0,.t 7⟩,⟨1,.t 9⟩]⟩,⟨some 2,none,.mv (.t 10)⟩]) .ret) (.seq (.ops [⟨some 12,none,.bin .eql (.t 3) (.c (.t (.str [98,101,114,116,104])))⟩,⟨some 11,none,.mv (.t 12)⟩]) (.cond (.t 11) (.seq (.ops [⟨some 13,none,.lit none 1 1 [.t (.int .i64 0)] [⟨0,.c (.t (.int .i64 3))⟩]⟩,⟨some 14,none,.call (.c (.fn (.func 61) [])) [.c (.t (.str [122,111,110,101])),.c (.t (.str [122])),.t 13]⟩,⟨some 15,none,.lit none 1 1 [.t (.int .i64 0)] [⟨0,.c (.t (.int .i64 1))⟩]⟩,⟨some 16,none,.call (.c (.fn (.func 61) [])) [.c (.t (.str [114,111,111,109])),.c (.t (.str [49,48,48])),.t 15]⟩,⟨some 17,none,.lit none 1 1 [.t (.int .i64 0)] [⟨0,.c (.t (.int .i64 1))⟩]⟩,⟨some 18,none,.call (.c (.fn (.func 61) [])) [.c (.t (.str [104,111,108,100])),.c (.t (.str [49,48,48])),.t 17]⟩,⟨some 19,none,.lit none 1 1 [.t (.int .i64 0)] [⟨0,.c (.t (.int .i64 3))⟩]⟩,⟨some 20,none,.call (.c (.fn (.func 62) [])) [.c (.t (.str [109,97,114,107])),.t 19]⟩,⟨some 21,none,.lit none 4 4 [.t (.str []),.nils,.t (.bool false),.nils] [⟨0,.t 14⟩,⟨1,.t 16⟩,⟨2,.t 18⟩,⟨3,.t 20⟩]⟩,⟨some 2,none,.mv (.t 21)⟩]) .ret) (.seq (.ops [⟨some 23,none,.bin .eql (.t 3) (.c (.t (.str [115,101,114,118,105,99,101])))⟩,⟨some 22,none,.mv (.t 23)⟩]) (.cond (.t 22) (.seq (.ops [⟨some 24,none,.lit none 1 1 [.t (.int .i64 0)] [⟨0,.c (.t (.int .i64 3))⟩]⟩,⟨some 25,none,.call (.c (.fn (.func 61) [])) [.c (.t (.str [116,101,97,109])),.c (.t (.str [99,111,114,101])),.t 24]⟩,⟨some 26,none,.lit none 1 1 [.t (.int .i64 0)] [⟨0,.c (.t (.int .i64 1))⟩]⟩,⟨some 27,none,.call (.c (.fn (.func 61) [])) [.c (.t (.str [105,109,97,103,101])),.c (.t (.str [49])),.t 26]⟩,⟨some 28,none,.lit none 1 1 [.t (.int .i64 0)] [⟨0,.c (.t (.int .i64 1))⟩]⟩,⟨some 29,none,.call (.c (.fn (.func 61) [])) [.c (.t (.str [119,97,110,116])),.c (.t (.str [49])),.t 28]⟩,⟨some 30,none,.lit none 1 1 [.t (.int .i64 0)] [⟨0,.c (.t (.int .i64 1))⟩]⟩,⟨some 31,none,.call (.c (.fn (.func 61) [])) [.c (.t (.str [100,111,119,110])),.c (.t (.str [49])),.t 30]⟩,⟨some 32,none,.lit none 1 1 [.t (.int .i64 0)] [⟨0,.c (.t (.int .i64 1))⟩]⟩,⟨some 33,none,.call (.c (.fn (.func 61) [])) [.c (.t (.str [111,118,101,114])),.c (.t (.str [48])),.t 32]⟩,⟨some 34,none,.lit none 1 2 [.t (.int .i64 0)] [⟨0,.c (.t (.int .i64 1))⟩,⟨1,.c (.t (.int .i64 1))⟩]⟩,⟨some 35,none,.call (.c (.fn (.func 61) [])) [.c (.t (.str [110,101,101,100,115])),.c (.t (.str [49,32,49])),.t 34]⟩,⟨some 36,none,.lit none 1 1 [.t (.int .i64 0)] [⟨0,.c (.t (.int .i64 4))⟩]⟩,⟨some 37,none,.call (.c (.fn (.func 61) [])) [.c (.t (.str [119,104,101,114,101])),.c (.t (.str [])),.t 36]⟩,⟨some 38,none,.lit none 1 2 [.t (.int .i64 0)] [⟨0,.c (.t (.int .i64 4))⟩,⟨1,.c (.t (.int .i64 2))⟩]⟩,⟨some 39,none,.call (.c (.fn (.func 62) [])) [.c (.t (.str [108,105,107,101])),.t 38]⟩,⟨some 40,none,.lit none 1 1 [.t (.int .i64 0)] [⟨0,.c (.t (.int .i64 6))⟩]⟩,⟨some 41,none,.call (.c (.fn (.func 61) [])) [.c (.t (.str [97,112,97,114,116])),.c (.t (.str [110,111,110,101])),.t 40]⟩,⟨some 42,none,.lit none 1 1 [.t (.int .i64 0)] [⟨0,.c (.t (.int .i64 5))⟩]⟩,⟨some 43,none,.call (.c (.fn (.func 61) [])) [.c (.t (.str [118,111,108,117,109,101])),.c (.t (.str [110,111])),.t 42]⟩,⟨some 44,none,.lit none 1 3 [.t (.int .i64 0)] [⟨0,.c (.t (.int .i64 1))⟩,⟨1,.c (.t (.int .i64 1))⟩,⟨2,.c (.t (.int .i64 1))⟩]⟩,⟨some 45,none,.call (.c (.fn (.func 61) [])) [.c (.t (.str [102,111,108,108,111,119])),.c (.t (.str [48,32,48,32,48])),.t 44]⟩,⟨some 46,none,.lit none 1 3 [.t (.int .i64 0)] [⟨0,.c (.t (.int .i64 1))⟩,⟨1,.c (.t (.int .i64 1))⟩,⟨2,.c (.t (.int .i64 1))⟩]⟩,⟨some 47,none,.call (.c (.fn (.func 61) [])) [.c (.t (.str [112,97,99,101])),.c (.t (.str [48,32,48,32,48])),.t 46]⟩,⟨some 48,none,.lit none 4 12 [.t (.str []),.nils,.t (.bool false),.nils] [⟨0,.t 25⟩,⟨1,.t 27⟩,⟨2,.t 29⟩,⟨3,.t 31⟩,⟨4,.t 33⟩,⟨5,.t 35⟩,⟨6,.t 37⟩,⟨7,.t 39⟩,⟨8,.t 41⟩,⟨9,.t 43⟩,⟨10,.t 45⟩,⟨11,.t 47⟩]⟩,⟨some 2,none,.mv (.t 48)⟩]) .ret) .skip)))))))) (.seq (.ops [⟨some 49,none,.lit none 4 0 [.t (.str []),.nils,.t (.bool false),.nils] []⟩,⟨some 2,none,.mv (.t 49)⟩]) .ret)))
theorem k_spec_SheetRules:comp Tryd.prog 50 (Tryd.f33.body.getD .skip)=some c_spec_SheetRules:=by kernel_rfl
set_option maxHeartbeats 8000000 in
theorem spec_SheetRules (kind:List UInt8) (σ:Store):ACalls Tryd.prog 33 [.t (.str kind)] σ fun r σ'=>r=.t (tSheetRuleS (rulesR kind))∧σ'=σ:=by
 refine acalls_frz1 (t:=tSheetRuleS (rulesR kind)) ?_
 refine acalls_of Tryd.func33 (by decide +kernel) (code:=Tryd.f33.body.getD .skip) (n:=50) (c:=c_spec_SheetRules) (rs:=[(.tmp 2)]) rfl rfl k_spec_SheetRules (by kernel_rfl) (by simp) (fun hσ=>?_)
 have c1:0<1:=by omega
 have c4:0<4:=by omega
 simp -implicitDefEqProofs only [c_spec_SheetRules,zZ,zA,zB,zC,zD,zE,zG,zH,zI,zJ,zK,if_true,if_false,reduceCtorEq,zW,zX,zY,za,zb]
 refine cond_split (fun h0=>?_) (fun h0=>?_)
 ·obtain rfl:kind=[116,101,97,109]:=by simpa using h0
  simp -implicitDefEqProofs only [c1,c4,cond_t,cond_f,SheetRule.vs,zZ,zA,zB,zC,zD,zE,zG,zH,zI,zJ,zK,if_true,if_false,reduceCtorEq,zW,zX,zY,za,zb]
  repeat' (with_reducible refine And.intro (by decide) ?_)
  refine lit_rows ?_
  try simp -implicitDefEqProofs only [c1,c4,cond_t,cond_f,SheetRule.vs,zZ,zA,zB,zC,zD,zE,zG,zH,zI,zJ,zK,if_true,if_false,reduceCtorEq,zW,zX,zY,za,zb]
  refine call_pure (spec_l38One [99,111,112,105,101,115] [49,48,48] [1] (by decide) (by decide) (by decide) _) ?_
  simp -implicitDefEqProofs only [c1,c4,cond_t,cond_f,SheetRule.vs,zZ,zA,zB,zC,zD,zE,zG,zH,zI,zJ,zK,if_true,if_false,reduceCtorEq,zW,zX,zY,za,zb]
  repeat' (with_reducible refine And.intro (by decide) ?_)
  refine lit_rows ?_
  try simp -implicitDefEqProofs only [c1,c4,cond_t,cond_f,SheetRule.vs,zZ,zA,zB,zC,zD,zE,zG,zH,zI,zJ,zK,if_true,if_false,reduceCtorEq,zW,zX,zY,za,zb]
  refine call_pure (spec_l38One [114,111,111,109] [49,48,48,48] [1] (by decide) (by decide) (by decide) _) ?_
  simp -implicitDefEqProofs only [c1,c4,cond_t,cond_f,SheetRule.vs,zZ,zA,zB,zC,zD,zE,zG,zH,zI,zJ,zK,if_true,if_false,reduceCtorEq,zW,zX,zY,za,zb]
  repeat' (with_reducible refine And.intro (by decide) ?_)
  refine lit_rows ?_
  try simp -implicitDefEqProofs only [c1,c4,cond_t,cond_f,SheetRule.vs,zZ,zA,zB,zC,zD,zE,zG,zH,zI,zJ,zK,if_true,if_false,reduceCtorEq,zW,zX,zY,za,zb]
  exact ret_same0 rfl ⟨[],(List.append_nil _).symm,seesF_rowsv (rows:=rules_team.map SheetRule.ts) (by omega)⟩
 simp -implicitDefEqProofs only [zZ,zA,zB,zC,zD,zE,zG,zH,zI,zJ,zK,if_true,if_false,reduceCtorEq,zW,zX,zY,za,zb]
 refine cond_split (fun h1=>?_) (fun h1=>?_)
 ·obtain rfl:kind=[98,101,114,116,104]:=by simpa using h1
  simp -implicitDefEqProofs only [c1,c4,cond_t,cond_f,SheetRule.vs,zZ,zA,zB,zC,zD,zE,zG,zH,zI,zJ,zK,if_true,if_false,reduceCtorEq,zW,zX,zY,za,zb]
  repeat' (with_reducible refine And.intro (by decide) ?_)
  refine lit_rows ?_
  try simp -implicitDefEqProofs only [c1,c4,cond_t,cond_f,SheetRule.vs,zZ,zA,zB,zC,zD,zE,zG,zH,zI,zJ,zK,if_true,if_false,reduceCtorEq,zW,zX,zY,za,zb]
  refine call_pure (spec_l38One [122,111,110,101] [122] [3] (by decide) (by decide) (by decide) _) ?_
  simp -implicitDefEqProofs only [c1,c4,cond_t,cond_f,SheetRule.vs,zZ,zA,zB,zC,zD,zE,zG,zH,zI,zJ,zK,if_true,if_false,reduceCtorEq,zW,zX,zY,za,zb]
  repeat' (with_reducible refine And.intro (by decide) ?_)
  refine lit_rows ?_
  try simp -implicitDefEqProofs only [c1,c4,cond_t,cond_f,SheetRule.vs,zZ,zA,zB,zC,zD,zE,zG,zH,zI,zJ,zK,if_true,if_false,reduceCtorEq,zW,zX,zY,za,zb]
  refine call_pure (spec_l38One [114,111,111,109] [49,48,48] [1] (by decide) (by decide) (by decide) _) ?_
  simp -implicitDefEqProofs only [c1,c4,cond_t,cond_f,SheetRule.vs,zZ,zA,zB,zC,zD,zE,zG,zH,zI,zJ,zK,if_true,if_false,reduceCtorEq,zW,zX,zY,za,zb]
  repeat' (with_reducible refine And.intro (by decide) ?_)
  refine lit_rows ?_
  try simp -implicitDefEqProofs only [c1,c4,cond_t,cond_f,SheetRule.vs,zZ,zA,zB,zC,zD,zE,zG,zH,zI,zJ,zK,if_true,if_false,reduceCtorEq,zW,zX,zY,za,zb]
  refine call_pure (spec_l38One [104,111,108,100] [49,48,48] [1] (by decide) (by decide) (by decide) _) ?_
  simp -implicitDefEqProofs only [c1,c4,cond_t,cond_f,SheetRule.vs,zZ,zA,zB,zC,zD,zE,zG,zH,zI,zJ,zK,if_true,if_false,reduceCtorEq,zW,zX,zY,za,zb]
  repeat' (with_reducible refine And.intro (by decide) ?_)
  refine lit_rows ?_
  try simp -implicitDefEqProofs only [c1,c4,cond_t,cond_f,SheetRule.vs,zZ,zA,zB,zC,zD,zE,zG,zH,zI,zJ,zK,if_true,if_false,reduceCtorEq,zW,zX,zY,za,zb]
  refine call_pure (spec_l38Many [109,97,114,107] [3] (by decide) (by decide) _) ?_
  simp -implicitDefEqProofs only [c1,c4,cond_t,cond_f,SheetRule.vs,zZ,zA,zB,zC,zD,zE,zG,zH,zI,zJ,zK,if_true,if_false,reduceCtorEq,zW,zX,zY,za,zb]
  repeat' (with_reducible refine And.intro (by decide) ?_)
  refine lit_rows ?_
  try simp -implicitDefEqProofs only [c1,c4,cond_t,cond_f,SheetRule.vs,zZ,zA,zB,zC,zD,zE,zG,zH,zI,zJ,zK,if_true,if_false,reduceCtorEq,zW,zX,zY,za,zb]
  exact ret_same0 rfl ⟨[],(List.append_nil _).symm,seesF_rowsv (rows:=rules_berth.map SheetRule.ts) (by omega)⟩
 simp -implicitDefEqProofs only [zZ,zA,zB,zC,zD,zE,zG,zH,zI,zJ,zK,if_true,if_false,reduceCtorEq,zW,zX,zY,za,zb]
 refine cond_split (fun h2=>?_) (fun h2=>?_)
 ·obtain rfl:kind=[115,101,114,118,105,99,101]:=by simpa using h2
  simp -implicitDefEqProofs only [c1,c4,cond_t,cond_f,SheetRule.vs,zZ,zA,zB,zC,zD,zE,zG,zH,zI,zJ,zK,if_true,if_false,reduceCtorEq,zW,zX,zY,za,zb]
  repeat' (with_reducible refine And.intro (by decide) ?_)
  refine lit_rows ?_
  try simp -implicitDefEqProofs only [c1,c4,cond_t,cond_f,SheetRule.vs,zZ,zA,zB,zC,zD,zE,zG,zH,zI,zJ,zK,if_true,if_false,reduceCtorEq,zW,zX,zY,za,zb]
  refine call_pure (spec_l38One [116,101,97,109] [99,111,114,101] [3] (by decide) (by decide) (by decide) _) ?_
  simp -implicitDefEqProofs only [c1,c4,cond_t,cond_f,SheetRule.vs,zZ,zA,zB,zC,zD,zE,zG,zH,zI,zJ,zK,if_true,if_false,reduceCtorEq,zW,zX,zY,za,zb]
  repeat' (with_reducible refine And.intro (by decide) ?_)
  refine lit_rows ?_
  try simp -implicitDefEqProofs only [c1,c4,cond_t,cond_f,SheetRule.vs,zZ,zA,zB,zC,zD,zE,zG,zH,zI,zJ,zK,if_true,if_false,reduceCtorEq,zW,zX,zY,za,zb]
  refine call_pure (spec_l38One [105,109,97,103,101] [49] [1] (by decide) (by decide) (by decide) _) ?_
  simp -implicitDefEqProofs only [c1,c4,cond_t,cond_f,SheetRule.vs,zZ,zA,zB,zC,zD,zE,zG,zH,zI,zJ,zK,if_true,if_false,reduceCtorEq,zW,zX,zY,za,zb]
  repeat' (with_reducible refine And.intro (by decide) ?_)
  refine lit_rows ?_
  try simp -implicitDefEqProofs only [c1,c4,cond_t,cond_f,SheetRule.vs,zZ,zA,zB,zC,zD,zE,zG,zH,zI,zJ,zK,if_true,if_false,reduceCtorEq,zW,zX,zY,za,zb]
  refine call_pure (spec_l38One [119,97,110,116] [49] [1] (by decide) (by decide) (by decide) _) ?_
  simp -implicitDefEqProofs only [c1,c4,cond_t,cond_f,SheetRule.vs,zZ,zA,zB,zC,zD,zE,zG,zH,zI,zJ,zK,if_true,if_false,reduceCtorEq,zW,zX,zY,za,zb]
  repeat' (with_reducible refine And.intro (by decide) ?_)
  refine lit_rows ?_
  try simp -implicitDefEqProofs only [c1,c4,cond_t,cond_f,SheetRule.vs,zZ,zA,zB,zC,zD,zE,zG,zH,zI,zJ,zK,if_true,if_false,reduceCtorEq,zW,zX,zY,za,zb]
  refine call_pure (spec_l38One [100,111,119,110] [49] [1] (by decide) (by decide) (by decide) _) ?_
  simp -implicitDefEqProofs only [c1,c4,cond_t,cond_f,SheetRule.vs,zZ,zA,zB,zC,zD,zE,zG,zH,zI,zJ,zK,if_true,if_false,reduceCtorEq,zW,zX,zY,za,zb]
  repeat' (with_reducible refine And.intro (by decide) ?_)
  refine lit_rows ?_
  try simp -implicitDefEqProofs only [c1,c4,cond_t,cond_f,SheetRule.vs,zZ,zA,zB,zC,zD,zE,zG,zH,zI,zJ,zK,if_true,if_false,reduceCtorEq,zW,zX,zY,za,zb]
  refine call_pure (spec_l38One [111,118,101,114] [48] [1] (by decide) (by decide) (by decide) _) ?_
  simp -implicitDefEqProofs only [c1,c4,cond_t,cond_f,SheetRule.vs,zZ,zA,zB,zC,zD,zE,zG,zH,zI,zJ,zK,if_true,if_false,reduceCtorEq,zW,zX,zY,za,zb]
  repeat' (with_reducible refine And.intro (by decide) ?_)
  refine lit_rows ?_
  try simp -implicitDefEqProofs only [c1,c4,cond_t,cond_f,SheetRule.vs,zZ,zA,zB,zC,zD,zE,zG,zH,zI,zJ,zK,if_true,if_false,reduceCtorEq,zW,zX,zY,za,zb]
  refine call_pure (spec_l38One [110,101,101,100,115] [49,32,49] [1,1] (by decide) (by decide) (by decide) _) ?_
  simp -implicitDefEqProofs only [c1,c4,cond_t,cond_f,SheetRule.vs,zZ,zA,zB,zC,zD,zE,zG,zH,zI,zJ,zK,if_true,if_false,reduceCtorEq,zW,zX,zY,za,zb]
  repeat' (with_reducible refine And.intro (by decide) ?_)
  refine lit_rows ?_
  try simp -implicitDefEqProofs only [c1,c4,cond_t,cond_f,SheetRule.vs,zZ,zA,zB,zC,zD,zE,zG,zH,zI,zJ,zK,if_true,if_false,reduceCtorEq,zW,zX,zY,za,zb]
  refine call_pure (spec_l38One [119,104,101,114,101] [] [4] (by decide) (by decide) (by decide) _) ?_
  simp -implicitDefEqProofs only [c1,c4,cond_t,cond_f,SheetRule.vs,zZ,zA,zB,zC,zD,zE,zG,zH,zI,zJ,zK,if_true,if_false,reduceCtorEq,zW,zX,zY,za,zb]
  repeat' (with_reducible refine And.intro (by decide) ?_)
  refine lit_rows ?_
  try simp -implicitDefEqProofs only [c1,c4,cond_t,cond_f,SheetRule.vs,zZ,zA,zB,zC,zD,zE,zG,zH,zI,zJ,zK,if_true,if_false,reduceCtorEq,zW,zX,zY,za,zb]
  refine call_pure (spec_l38Many [108,105,107,101] [4,2] (by decide) (by decide) _) ?_
  simp -implicitDefEqProofs only [c1,c4,cond_t,cond_f,SheetRule.vs,zZ,zA,zB,zC,zD,zE,zG,zH,zI,zJ,zK,if_true,if_false,reduceCtorEq,zW,zX,zY,za,zb]
  repeat' (with_reducible refine And.intro (by decide) ?_)
  refine lit_rows ?_
  try simp -implicitDefEqProofs only [c1,c4,cond_t,cond_f,SheetRule.vs,zZ,zA,zB,zC,zD,zE,zG,zH,zI,zJ,zK,if_true,if_false,reduceCtorEq,zW,zX,zY,za,zb]
  refine call_pure (spec_l38One [97,112,97,114,116] [110,111,110,101] [6] (by decide) (by decide) (by decide) _) ?_
  simp -implicitDefEqProofs only [c1,c4,cond_t,cond_f,SheetRule.vs,zZ,zA,zB,zC,zD,zE,zG,zH,zI,zJ,zK,if_true,if_false,reduceCtorEq,zW,zX,zY,za,zb]
  repeat' (with_reducible refine And.intro (by decide) ?_)
  refine lit_rows ?_
  try simp -implicitDefEqProofs only [c1,c4,cond_t,cond_f,SheetRule.vs,zZ,zA,zB,zC,zD,zE,zG,zH,zI,zJ,zK,if_true,if_false,reduceCtorEq,zW,zX,zY,za,zb]
  refine call_pure (spec_l38One [118,111,108,117,109,101] [110,111] [5] (by decide) (by decide) (by decide) _) ?_
  simp -implicitDefEqProofs only [c1,c4,cond_t,cond_f,SheetRule.vs,zZ,zA,zB,zC,zD,zE,zG,zH,zI,zJ,zK,if_true,if_false,reduceCtorEq,zW,zX,zY,za,zb]
  repeat' (with_reducible refine And.intro (by decide) ?_)
  refine lit_rows ?_
  try simp -implicitDefEqProofs only [c1,c4,cond_t,cond_f,SheetRule.vs,zZ,zA,zB,zC,zD,zE,zG,zH,zI,zJ,zK,if_true,if_false,reduceCtorEq,zW,zX,zY,za,zb]
  refine call_pure (spec_l38One [102,111,108,108,111,119] [48,32,48,32,48] [1,1,1] (by decide) (by decide) (by decide) _) ?_
  simp -implicitDefEqProofs only [c1,c4,cond_t,cond_f,SheetRule.vs,zZ,zA,zB,zC,zD,zE,zG,zH,zI,zJ,zK,if_true,if_false,reduceCtorEq,zW,zX,zY,za,zb]
  repeat' (with_reducible refine And.intro (by decide) ?_)
  refine lit_rows ?_
  try simp -implicitDefEqProofs only [c1,c4,cond_t,cond_f,SheetRule.vs,zZ,zA,zB,zC,zD,zE,zG,zH,zI,zJ,zK,if_true,if_false,reduceCtorEq,zW,zX,zY,za,zb]
  refine call_pure (spec_l38One [112,97,99,101] [48,32,48,32,48] [1,1,1] (by decide) (by decide) (by decide) _) ?_
  simp -implicitDefEqProofs only [c1,c4,cond_t,cond_f,SheetRule.vs,zZ,zA,zB,zC,zD,zE,zG,zH,zI,zJ,zK,if_true,if_false,reduceCtorEq,zW,zX,zY,za,zb]
  repeat' (with_reducible refine And.intro (by decide) ?_)
  refine lit_rows ?_
  try simp -implicitDefEqProofs only [c1,c4,cond_t,cond_f,SheetRule.vs,zZ,zA,zB,zC,zD,zE,zG,zH,zI,zJ,zK,if_true,if_false,reduceCtorEq,zW,zX,zY,za,zb]
  exact ret_same0 rfl ⟨[],(List.append_nil _).symm,seesF_rowsv (rows:=rules_service.map SheetRule.ts) (by omega)⟩
 simp -implicitDefEqProofs only [zZ,zA,zB,zC,zD,zE,zG,zH,zI,zJ,zK,if_true,if_false,reduceCtorEq,zW,zX,zY,za,zb]
 have hk:kindOk kind=false:=by simp only [kindOk,h0,h1,h2]; rfl
 rw [rulesR_none hk]
 (try simp -implicitDefEqProofs only [c4,zZ,zA,zB,zC,zD,zE,zG,zH,zI,zJ,zK,if_true,if_false,reduceCtorEq,zW,zX,zY,za,zb])
 refine lit_rows ?_
 simp -implicitDefEqProofs only [zZ,zA,zB,zC,zD,zE,zG,zH,zI,zJ,zK,if_true,if_false,reduceCtorEq,zW,zX,zY,za,zb]
 exact ret_same0 rfl ⟨[],(List.append_nil _).symm,seesF_rowsv (rows:=[]) (by omega)⟩
end Go.Proofs.YtnnnemgbgilfaaaDoor.W
end
section
open Go Go.Ab
set_option maxHeartbeats 2000000
namespace Go.Proofs.YtnnnemgbgilfaaaDoor.W
theorem own_ints {s:Store} {a m:Nat} {ag:List Int} (ho:s[a]?=some (.slc 1 (intsV ag))) (hm:m=ag.length):Own s (tInts ag) (.sl a m 0 m) [a] :=
 own_flatAt (by omega) (tInts_flat ag) (by rw [hm,List.length_map]) (ho.trans (congrArg some (tInts_rows ag)))
theorem own_strs {s:Store} {a m:Nat} {l:List (List UInt8)} (ho:s[a]?=some (tObj 1 (l.map tStr))) (hm:m=l.length):Own s (tStrs l) (.sl a m 0 m) [a] :=
 own_flatAt (by omega) (tStr_flat l) (by rw [hm,List.length_map]) ho
theorem own_sc {s:Store} {t:T} (h:scalar t=true):Own s t (.t t) []:=by
 cases t with
 | lst sz rows=>simp [scalar] at h
 | _=>simp [Own]
theorem wi_add {a b n:Nat} {l:List Nat} (hn:b=a+n) (h:l.Nodup) (hb:∀ x∈l,x<n):Wi (l.map (a+·)) a b:=by
 subst hn
 refine ⟨List.Pairwise.map _ (fun x y (h:x≠y)=>by omega) h,fun i hi=>?_⟩
 obtain ⟨x,hx,rfl⟩:=List.mem_map.1 hi
 have:=hb x hx
 omega
theorem own_rules0 {s:Store}:OwnR s (([]:List SheetRule).map SheetRule.ts) [] []:=by simp [OwnR]
theorem own_rule1 {s:Store} {key:List UInt8} {ag:List Int} {df:List (List UInt8)} {a d n m:Nat} (h1:s[a]?=some (.slc 1 (intsV ag))) (hn:n=ag.length) (h2:s[d]?=some (tObj 1 (df.map tStr))) (hm:m=df.length) :
  OwnL s (SheetRule.mk key ag false df).ts [.t (.str key),.sl a n 0 n,.t (.bool false),.sl d m 0 m] [a,d]:=by
 simp only [SheetRule.ts,OwnL]
 exact ⟨_,_,[],[a,d],rfl,rfl,own_sc rfl,_,_,[a],[d],rfl,rfl,own_ints h1 hn,_,_,[],[d],rfl,rfl,own_sc rfl,_,_,[d],[],rfl,rfl,own_strs h2 hm,rfl,rfl⟩
theorem own_rule2 {s:Store} {key:List UInt8} {ag:List Int} {a n:Nat} (h1:s[a]?=some (.slc 1 (intsV ag))) (hn:n=ag.length) :
  OwnL s (SheetRule.mk key ag true []).ts [.t (.str key),.sl a n 0 n,.t (.bool true),.nils] [a]:=by
 simp only [SheetRule.ts,OwnL]
 exact ⟨_,_,[],[a],rfl,rfl,own_sc rfl,_,_,[a],[],rfl,rfl,own_ints h1 hn,_,_,[],[],rfl,rfl,own_sc rfl,_,_,[],[],rfl,rfl,by simp [Own],rfl,rfl⟩
theorem own_rulesC {s:Store} {x:SheetRule} {l:List SheetRule} {u:List V} {us:List (List V)} {i j:List Nat} (h1:OwnL s x.ts u i) (h2:OwnR s (l.map SheetRule.ts) us j):OwnR s ((x::l).map SheetRule.ts) (u::us) (i++j):=by
 simp only [zu,OwnR]
 exact ⟨_,_,_,_,rfl,rfl,h1,h2⟩
theorem own_rules {s:Store} {l:List SheetRule} {us:List (List V)} {js:List Nat} {id n:Nat} (h2:OwnR s (l.map SheetRule.ts) us js) (ho:s[id]?=some (.slc 4 us)) (hn:n=us.length):Own s (tSheetRuleS l) (.sl id n 0 n) (id::js):=by
 subst hn
 simp only [Own]
 exact ⟨by omega,.inr ⟨id,js,us,rfl,rfl,ho,h2⟩⟩
def c_impl_rule:C:=(.seq (.ops [⟨some 6,none,.new [.t (.str []),.nils,.t (.bool false),.nils]⟩]) (.seq (.ops [⟨some 7,none,.mv (.t 0)⟩,⟨some 8,none,.mv (.t 2)⟩,⟨some 9,none,.mv (.t 1)⟩,⟨some 10,none,.call (.c (.fn (.func 72) [])) [.t 9,.c (.t (.str [32]))]⟩,⟨some 11,none,.build [.t (.str []),.nils,.t (.bool false),.nils] [⟨0,⟨1,.t 7⟩⟩,⟨1,⟨1,.t 8⟩⟩,⟨3,⟨1,.t 10⟩⟩]⟩,⟨none,none,.store 4 (.t 6) (.t 11)⟩]) .ret))
theorem k_impl_rule:comp Tryd.prog 12 (Tryd.f43.body.getD .skip)=some c_impl_rule:=by kernel_rfl
theorem impl_rule (key df:List UInt8) (av:V) (hd:df.length≤1048576) (h1:Go.Ab.one av=true) (σ:Store):ACalls Tryd.prog 43 [.t (.str key),.t (.str df),av] σ fun r σ'=>r=.agg [.t (.str key),av,.t (.bool false),.sl (σ.length+1) (splitB 32 df).length 0 (splitB 32 df).length]∧σ'=σ++[.box [.t (.str key),av,.t (.bool false),.sl (σ.length+1) (splitB 32 df).length 0 (splitB 32 df).length],tObj 1 ((splitB 32 df).map tStr)]:=by
 refine acalls_of Tryd.func43 (by decide +kernel) (code:=Tryd.f43.body.getD .skip) (n:=12) (c:=c_impl_rule) (rs:=[(.cell 6 (some 4))]) rfl rfl k_impl_rule (by kernel_rfl) (by simp) (fun hσ=>?_)
 have hc:=one_cells h1
 simp -implicitDefEqProofs only [c_impl_rule,hc,zZ,zA,zB,zC,zD,zE,zG,zH,zI,zJ,zK,if_true,if_false,reduceCtorEq,zW,zX,zY,za,zb]
 refine call_by (strings_Split df 32 (by omega) _) ?_
 rintro r σ' ⟨rfl,rfl⟩
 simp -implicitDefEqProofs only [hc,h1,zh,zZ,zA,zB,zC,zD,zE,zG,zH,zI,zJ,zK,if_true,if_false,reduceCtorEq,zW,zX,zY,za,zb]
 exact fin_keep (by simp) ⟨rfl,rfl⟩
def c_impl_SheetRules:C:=(.seq (.ops [⟨some 2,none,.mv (.c .nils)⟩]) (.seq (.seq (.ops [⟨some 3,none,.mv (.t 0)⟩]) (.block 0 (.seq (.ops [⟨some 5,none,.bin .eql (.t 3) (.c (.t (.str [116,101,97,109])))⟩,⟨some 4,none,.mv (.t 5)⟩]) (.cond (.t 4) (.seq (.ops [⟨some 6,none,.lit none 1 1 [.t (.int .i64 0)] [⟨0,.c (.t (.int .i64 1))⟩]⟩,⟨some 7,none,.call (.c (.fn (.func 43) [])) [.c (.t (.str [99,111,112,105,101,115])),.c (.t (.str [49,48,48])),.t 6]⟩,⟨some 8,none,.lit none 1 1 [.t (.int .i64 0)] [⟨0,.c (.t (.int .i64 1))⟩]⟩,⟨some 9,none,.call (.c (.fn (.func 43) [])) [.c (.t (.str [114,111,111,109])),.c (.t (.str [49,48,48,48])),.t 8]⟩,⟨some 10,none,.lit none 4 2 [.t (.str []),.nils,.t (.bool false),.nils] [⟨0,.t 7⟩,⟨1,.t 9⟩]⟩,⟨some 2,none,.mv (.t 10)⟩]) .ret) (.seq (.ops [⟨some 12,none,.bin .eql (.t 3) (.c (.t (.str [98,101,114,116,104])))⟩,⟨some 11,none,.mv (.t 12)⟩]) (.cond (.t 11) (.seq (.ops [⟨some 13,none,.lit none 1 1 [.t (.int .i64 0)] [⟨0,.c (.t (.int .i64 3))⟩]⟩,⟨some 14,none,.call (.c (.fn (.func 43) [])) [.c (.t (.str [122,111,110,101])),.c (.t (.str [122])),.t 13]⟩,⟨some 15,none,.lit none 1 1 [.t (.int .i64 0)] [⟨0,.c (.t (.int .i64 1))⟩]⟩,⟨some 16,none,.call (.c (.fn (.func 43) [])) [.c (.t (.str [114,111,111,109])),.c (.t (.str [49,48,48])),.t 15]⟩,⟨some 17,none,.lit none 1 1 [.t (.int .i64 0)] [⟨0,.c (.t (.int .i64 1))⟩]⟩,⟨some 18,none,.call (.c (.fn (.func 43) [])) [.c (.t (.str [104,111,108,100])),.c (.t (.str [49,48,48])),.t 17]⟩,⟨some 19,none,.lit none 1 1 [.t (.int .i64 0)] [⟨0,.c (.t (.int .i64 3))⟩]⟩,⟨some 20,none,.build [.t (.str []),.nils,.t (.bool false),.nils] [⟨0,⟨1,.c (.t (.str [109,97,114,107]))⟩⟩,⟨1,⟨1,.t 19⟩⟩,⟨2,⟨1,.c (.t (.bool true))⟩⟩]⟩,⟨some 21,none,.lit none 4 4 [.t (.str []),.nils,.t (.bool false),.nils] [⟨0,.t 14⟩,⟨1,.t 16⟩,⟨2,.t 18⟩,⟨3,.t 20⟩]⟩,⟨some 2,none,.mv (.t 21)⟩]) .ret) (.seq (.ops [⟨some 23,none,.bin .eql (.t 3) (.c (.t (.str [115,101,114,118,105,99,101])))⟩,⟨some 22,none,.mv (.t 23)⟩]) (.cond (.t 22) (.seq (.ops [⟨some 24,none,.lit none 1 1 [.t (.int .i64 0)] [⟨0,.c (.t (.int .i64 3))⟩]⟩,⟨some 25,none,.call (.c (.fn (.func 43) [])) [.c (.t (.str [116,101,97,109])),.c (.t (.str [99,111,114,101])),.t 24]⟩,⟨some 26,none,.lit none 1 1 [.t (.int .i64 0)] [⟨0,.c (.t (.int .i64 1))⟩]⟩,⟨some 27,none,.call (.c (.fn (.func 43) [])) [.c (.t (.str [105,109,97,103,101])),.c (.t (.str [49])),.t 26]⟩,⟨some 28,none,.lit none 1 1 [.t (.int .i64 0)] [⟨0,.c (.t (.int .i64 1))⟩]⟩,⟨some 29,none,.call (.c (.fn (.func 43) [])) [.c (.t (.str [119,97,110,116])),.c (.t (.str [49])),.t 28]⟩,⟨some 30,none,.lit none 1 1 [.t (.int .i64 0)] [⟨0,.c (.t (.int .i64 1))⟩]⟩,⟨some 31,none,.call (.c (.fn (.func 43) [])) [.c (.t (.str [100,111,119,110])),.c (.t (.str [49])),.t 30]⟩,⟨some 32,none,.lit none 1 1 [.t (.int .i64 0)] [⟨0,.c (.t (.int .i64 1))⟩]⟩,⟨some 33,none,.call (.c (.fn (.func 43) [])) [.c (.t (.str [111,118,101,114])),.c (.t (.str [48])),.t 32]⟩,⟨some 34,none,.lit none 1 2 [.t (.int .i64 0)] [⟨0,.c (.t (.int .i64 1))⟩,⟨1,.c (.t (.int .i64 1))⟩]⟩,⟨some 35,none,.call (.c (.fn (.func 43) [])) [.c (.t (.str [110,101,101,100,115])),.c (.t (.str [49,32,49])),.t 34]⟩,⟨some 36,none,.lit none 1 1 [.t (.int .i64 0)] [⟨0,.c (.t (.int .i64 4))⟩]⟩,⟨some 37,none,.call (.c (.fn (.func 43) [])) [.c (.t (.str [119,104,101,114,101])),.c (.t (.str [])),.t 36]⟩,⟨some 38,none,.lit none 1 2 [.t (.int .i64 0)] [⟨0,.c (.t (.int .i64 4))⟩,⟨1,.c (.t (.int .i64 2))⟩]⟩,⟨some 39,none,.build [.t (.str []),.nils,.t (.bool false),.nils] [⟨0,⟨1,.c (.t (.str [108,105,107,101]))⟩⟩,⟨1,⟨1,.t 38⟩⟩,⟨2,⟨1,.c (.t (.bool true))⟩⟩]⟩,⟨some 40,none,.lit none 1 1 [.t (.int .i64 0)] [⟨0,.c (.t (.int .i64 6))⟩]⟩,⟨some 41,none,.call (.c (.fn (.func 43) [])) [.c (.t (.str [97,112,97,114,116])),.c (.t (.str [110,111,110,101])),.t 40]⟩,⟨some 42,none,.lit none 1 1 [.t (.int .i64 0)] [⟨0,.c (.t (.int .i64 5))⟩]⟩,⟨some 43,none,.call (.c (.fn (.func 43) [])) [.c (.t (.str [118,111,108,117,109,101])),.c (.t (.str [110,111])),.t 42]⟩,⟨some 44,none,.lit none 1 3 [.t (.int .i64 0)] [⟨0,.c (.t (.int .i64 1))⟩,⟨1,.c (.t (.int .i64 1))⟩,⟨2,.c (.t (.int .i64 1))⟩]⟩,⟨some 45,none,.call (.c (.fn (.func 43) [])) [.c (.t (.str [102,111,108,108,111,119])),.c (.t (.str [48,32,48,32,48])),.t 44]⟩,⟨some 46,none,.lit none 1 3 [.t (.int .i64 0)] [⟨0,.c (.t (.int .i64 1))⟩,⟨1,.c (.t (.int .i64 1))⟩,⟨2,.c (.t (.int .i64 1))⟩]⟩,⟨some 47,none,.call (.c (.fn (.func 43) [])) [.c (.t (.str [112,97,99,101])),.c (.t (.str [48,32,48,32,48])),.t 46]⟩,⟨some 48,none,.lit none 4 12 [.t (.str []),.nils,.t (.bool false),.nils] [⟨0,.t 25⟩,⟨1,.t 27⟩,⟨2,.t 29⟩,⟨3,.t 31⟩,⟨4,.t 33⟩,⟨5,.t 35⟩,⟨6,.t 37⟩,⟨7,.t 39⟩,⟨8,.t 41⟩,⟨9,.t 43⟩,⟨10,.t 45⟩,⟨11,.t 47⟩]⟩,⟨some 2,none,.mv (.t 48)⟩]) .ret) .skip)))))))) (.seq (.ops [⟨some 2,none,.mv (.c .nils)⟩]) .ret)))
theorem k_impl_SheetRules:comp Tryd.prog 49 (Tryd.f13.body.getD .skip)=some c_impl_SheetRules:=by kernel_rfl
set_option maxHeartbeats 8000000 in
theorem impl_SheetRules (kind:List UInt8) (σ:Store):ACalls Tryd.prog 13 [.t (.str kind)] σ fun r σ'=>ToR (tSheetRuleS (rulesR kind)) σ r σ'∧(kindOk kind=false→r=.nils∧σ'=σ)∧(kindOk kind=true→r≠.nils):=by
 refine acalls_of Tryd.func13 (by decide +kernel) (code:=Tryd.f13.body.getD .skip) (n:=49) (c:=c_impl_SheetRules) (rs:=[(.tmp 2)]) rfl rfl k_impl_SheetRules (by kernel_rfl) (by simp) (fun hσ=>?_)
 have c1:0<1:=by omega
 have c4:0<4:=by omega
 have o1:∀ a b c d,Go.Ab.one (.sl a b c d)=true:=fun _ _ _ _=>rfl
 simp -implicitDefEqProofs only [c_impl_SheetRules,zZ,zA,zB,zC,zD,zE,zG,zH,zI,zJ,zK,if_true,if_false,reduceCtorEq,zW,zX,zY,za,zb]
 refine cond_split (fun h0=>?_) (fun h0=>?_)
 ·obtain rfl:kind=[116,101,97,109]:=by simpa using h0
  simp -implicitDefEqProofs only [c1,c4,o1,cond_t,cond_f,zh,zt,zj,zk,zZ,zA,zB,zC,zD,zE,zG,zH,zI,zJ,zK,if_true,if_false,reduceCtorEq,zW,zX,zY,za,zb]
  repeat' (with_reducible refine And.intro (by decide) ?_)
  refine lit_own ?_
  try simp -implicitDefEqProofs only [c1,c4,o1,cond_t,cond_f,zh,zt,zj,zk,zZ,zA,zB,zC,zD,zE,zG,zH,zI,zJ,zK,if_true,if_false,reduceCtorEq,zW,zX,zY,za,zb]
  refine call_by (impl_rule [99,111,112,105,101,115] [49,48,48] _ (by decide) rfl _) ?_
  rintro r σ' ⟨rfl,rfl⟩
  simp -implicitDefEqProofs only [c1,c4,o1,cond_t,cond_f,zh,zt,zj,zk,zZ,zA,zB,zC,zD,zE,zG,zH,zI,zJ,zK,if_true,if_false,reduceCtorEq,zW,zX,zY,za,zb]
  repeat' (with_reducible refine And.intro (by decide) ?_)
  refine lit_own ?_
  try simp -implicitDefEqProofs only [c1,c4,o1,cond_t,cond_f,zh,zt,zj,zk,zZ,zA,zB,zC,zD,zE,zG,zH,zI,zJ,zK,if_true,if_false,reduceCtorEq,zW,zX,zY,za,zb]
  refine call_by (impl_rule [114,111,111,109] [49,48,48,48] _ (by decide) rfl _) ?_
  rintro r σ' ⟨rfl,rfl⟩
  simp -implicitDefEqProofs only [c1,c4,o1,cond_t,cond_f,zh,zt,zj,zk,zZ,zA,zB,zC,zD,zE,zG,zH,zI,zJ,zK,if_true,if_false,reduceCtorEq,zW,zX,zY,za,zb]
  repeat' (with_reducible refine And.intro (by decide) ?_)
  refine lit_own ?_
  try simp -implicitDefEqProofs only [c1,c4,o1,cond_t,cond_f,zh,zt,zj,zk,zZ,zA,zB,zC,zD,zE,zG,zH,zI,zJ,zK,if_true,if_false,reduceCtorEq,zW,zX,zY,za,zb]
  refine fin_keep (by simp) ⟨⟨_,_,rfl,own_rules (l:=rules_team) (own_rulesC (own_rule1 ((q_app_get0 σ _).trans rfl) rfl ((q_app_get σ _ 2).trans rfl) rfl) (own_rulesC (own_rule1 ((q_app_get σ _ 3).trans rfl) rfl ((q_app_get σ _ 5).trans rfl) rfl) own_rules0)) ((q_app_get σ _ 6).trans rfl) rfl,?_⟩,fun h=>absurd h (by decide),fun _ h=>by cases h⟩
  exact wi_add (n:=7) (l:=[6,0,2,3,5]) (by simp) (by decide) (by decide)
 simp -implicitDefEqProofs only [zZ,zA,zB,zC,zD,zE,zG,zH,zI,zJ,zK,if_true,if_false,reduceCtorEq,zW,zX,zY,za,zb]
 refine cond_split (fun h1=>?_) (fun h1=>?_)
 ·obtain rfl:kind=[98,101,114,116,104]:=by simpa using h1
  simp -implicitDefEqProofs only [c1,c4,o1,cond_t,cond_f,zh,zt,zj,zk,zZ,zA,zB,zC,zD,zE,zG,zH,zI,zJ,zK,if_true,if_false,reduceCtorEq,zW,zX,zY,za,zb]
  repeat' (with_reducible refine And.intro (by decide) ?_)
  refine lit_own ?_
  try simp -implicitDefEqProofs only [c1,c4,o1,cond_t,cond_f,zh,zt,zj,zk,zZ,zA,zB,zC,zD,zE,zG,zH,zI,zJ,zK,if_true,if_false,reduceCtorEq,zW,zX,zY,za,zb]
  refine call_by (impl_rule [122,111,110,101] [122] _ (by decide) rfl _) ?_
  rintro r σ' ⟨rfl,rfl⟩
  simp -implicitDefEqProofs only [c1,c4,o1,cond_t,cond_f,zh,zt,zj,zk,zZ,zA,zB,zC,zD,zE,zG,zH,zI,zJ,zK,if_true,if_false,reduceCtorEq,zW,zX,zY,za,zb]
  repeat' (with_reducible refine And.intro (by decide) ?_)
  refine lit_own ?_
  try simp -implicitDefEqProofs only [c1,c4,o1,cond_t,cond_f,zh,zt,zj,zk,zZ,zA,zB,zC,zD,zE,zG,zH,zI,zJ,zK,if_true,if_false,reduceCtorEq,zW,zX,zY,za,zb]
  refine call_by (impl_rule [114,111,111,109] [49,48,48] _ (by decide) rfl _) ?_
  rintro r σ' ⟨rfl,rfl⟩
  simp -implicitDefEqProofs only [c1,c4,o1,cond_t,cond_f,zh,zt,zj,zk,zZ,zA,zB,zC,zD,zE,zG,zH,zI,zJ,zK,if_true,if_false,reduceCtorEq,zW,zX,zY,za,zb]
  repeat' (with_reducible refine And.intro (by decide) ?_)
  refine lit_own ?_
  try simp -implicitDefEqProofs only [c1,c4,o1,cond_t,cond_f,zh,zt,zj,zk,zZ,zA,zB,zC,zD,zE,zG,zH,zI,zJ,zK,if_true,if_false,reduceCtorEq,zW,zX,zY,za,zb]
  refine call_by (impl_rule [104,111,108,100] [49,48,48] _ (by decide) rfl _) ?_
  rintro r σ' ⟨rfl,rfl⟩
  simp -implicitDefEqProofs only [c1,c4,o1,cond_t,cond_f,zh,zt,zj,zk,zZ,zA,zB,zC,zD,zE,zG,zH,zI,zJ,zK,if_true,if_false,reduceCtorEq,zW,zX,zY,za,zb]
  repeat' (with_reducible refine And.intro (by decide) ?_)
  refine lit_own ?_
  try simp -implicitDefEqProofs only [c1,c4,o1,cond_t,cond_f,zh,zt,zj,zk,zZ,zA,zB,zC,zD,zE,zG,zH,zI,zJ,zK,if_true,if_false,reduceCtorEq,zW,zX,zY,za,zb]
  repeat' (with_reducible refine And.intro (by decide) ?_)
  refine lit_own ?_
  try simp -implicitDefEqProofs only [c1,c4,o1,cond_t,cond_f,zh,zt,zj,zk,zZ,zA,zB,zC,zD,zE,zG,zH,zI,zJ,zK,if_true,if_false,reduceCtorEq,zW,zX,zY,za,zb]
  refine fin_keep (by simp) ⟨⟨_,_,rfl,own_rules (l:=rules_berth) (own_rulesC (own_rule1 ((q_app_get0 σ _).trans rfl) rfl ((q_app_get σ _ 2).trans rfl) rfl) (own_rulesC (own_rule1 ((q_app_get σ _ 3).trans rfl) rfl ((q_app_get σ _ 5).trans rfl) rfl) (own_rulesC (own_rule1 ((q_app_get σ _ 6).trans rfl) rfl ((q_app_get σ _ 8).trans rfl) rfl) (own_rulesC (own_rule2 ((q_app_get σ _ 9).trans rfl) rfl) own_rules0)))) ((q_app_get σ _ 10).trans rfl) rfl,?_⟩,fun h=>absurd h (by decide),fun _ h=>by cases h⟩
  exact wi_add (n:=11) (l:=[10,0,2,3,5,6,8,9]) (by simp) (by decide) (by decide)
 simp -implicitDefEqProofs only [zZ,zA,zB,zC,zD,zE,zG,zH,zI,zJ,zK,if_true,if_false,reduceCtorEq,zW,zX,zY,za,zb]
 refine cond_split (fun h2=>?_) (fun h2=>?_)
 ·obtain rfl:kind=[115,101,114,118,105,99,101]:=by simpa using h2
  simp -implicitDefEqProofs only [c1,c4,o1,cond_t,cond_f,zh,zt,zj,zk,zZ,zA,zB,zC,zD,zE,zG,zH,zI,zJ,zK,if_true,if_false,reduceCtorEq,zW,zX,zY,za,zb]
  repeat' (with_reducible refine And.intro (by decide) ?_)
  refine lit_own ?_
  try simp -implicitDefEqProofs only [c1,c4,o1,cond_t,cond_f,zh,zt,zj,zk,zZ,zA,zB,zC,zD,zE,zG,zH,zI,zJ,zK,if_true,if_false,reduceCtorEq,zW,zX,zY,za,zb]
  refine call_by (impl_rule [116,101,97,109] [99,111,114,101] _ (by decide) rfl _) ?_
  rintro r σ' ⟨rfl,rfl⟩
  simp -implicitDefEqProofs only [c1,c4,o1,cond_t,cond_f,zh,zt,zj,zk,zZ,zA,zB,zC,zD,zE,zG,zH,zI,zJ,zK,if_true,if_false,reduceCtorEq,zW,zX,zY,za,zb]
  repeat' (with_reducible refine And.intro (by decide) ?_)
  refine lit_own ?_
  try simp -implicitDefEqProofs only [c1,c4,o1,cond_t,cond_f,zh,zt,zj,zk,zZ,zA,zB,zC,zD,zE,zG,zH,zI,zJ,zK,if_true,if_false,reduceCtorEq,zW,zX,zY,za,zb]
  refine call_by (impl_rule [105,109,97,103,101] [49] _ (by decide) rfl _) ?_
  rintro r σ' ⟨rfl,rfl⟩
  simp -implicitDefEqProofs only [c1,c4,o1,cond_t,cond_f,zh,zt,zj,zk,zZ,zA,zB,zC,zD,zE,zG,zH,zI,zJ,zK,if_true,if_false,reduceCtorEq,zW,zX,zY,za,zb]
  repeat' (with_reducible refine And.intro (by decide) ?_)
  refine lit_own ?_
  try simp -implicitDefEqProofs only [c1,c4,o1,cond_t,cond_f,zh,zt,zj,zk,zZ,zA,zB,zC,zD,zE,zG,zH,zI,zJ,zK,if_true,if_false,reduceCtorEq,zW,zX,zY,za,zb]
  refine call_by (impl_rule [119,97,110,116] [49] _ (by decide) rfl _) ?_
  rintro r σ' ⟨rfl,rfl⟩
  simp -implicitDefEqProofs only [c1,c4,o1,cond_t,cond_f,zh,zt,zj,zk,zZ,zA,zB,zC,zD,zE,zG,zH,zI,zJ,zK,if_true,if_false,reduceCtorEq,zW,zX,zY,za,zb]
  repeat' (with_reducible refine And.intro (by decide) ?_)
  refine lit_own ?_
  try simp -implicitDefEqProofs only [c1,c4,o1,cond_t,cond_f,zh,zt,zj,zk,zZ,zA,zB,zC,zD,zE,zG,zH,zI,zJ,zK,if_true,if_false,reduceCtorEq,zW,zX,zY,za,zb]
  refine call_by (impl_rule [100,111,119,110] [49] _ (by decide) rfl _) ?_
  rintro r σ' ⟨rfl,rfl⟩
  simp -implicitDefEqProofs only [c1,c4,o1,cond_t,cond_f,zh,zt,zj,zk,zZ,zA,zB,zC,zD,zE,zG,zH,zI,zJ,zK,if_true,if_false,reduceCtorEq,zW,zX,zY,za,zb]
  repeat' (with_reducible refine And.intro (by decide) ?_)
  refine lit_own ?_
  try simp -implicitDefEqProofs only [c1,c4,o1,cond_t,cond_f,zh,zt,zj,zk,zZ,zA,zB,zC,zD,zE,zG,zH,zI,zJ,zK,if_true,if_false,reduceCtorEq,zW,zX,zY,za,zb]
  refine call_by (impl_rule [111,118,101,114] [48] _ (by decide) rfl _) ?_
  rintro r σ' ⟨rfl,rfl⟩
  simp -implicitDefEqProofs only [c1,c4,o1,cond_t,cond_f,zh,zt,zj,zk,zZ,zA,zB,zC,zD,zE,zG,zH,zI,zJ,zK,if_true,if_false,reduceCtorEq,zW,zX,zY,za,zb]
  repeat' (with_reducible refine And.intro (by decide) ?_)
  refine lit_own ?_
  try simp -implicitDefEqProofs only [c1,c4,o1,cond_t,cond_f,zh,zt,zj,zk,zZ,zA,zB,zC,zD,zE,zG,zH,zI,zJ,zK,if_true,if_false,reduceCtorEq,zW,zX,zY,za,zb]
  refine call_by (impl_rule [110,101,101,100,115] [49,32,49] _ (by decide) rfl _) ?_
  rintro r σ' ⟨rfl,rfl⟩
  simp -implicitDefEqProofs only [c1,c4,o1,cond_t,cond_f,zh,zt,zj,zk,zZ,zA,zB,zC,zD,zE,zG,zH,zI,zJ,zK,if_true,if_false,reduceCtorEq,zW,zX,zY,za,zb]
  repeat' (with_reducible refine And.intro (by decide) ?_)
  refine lit_own ?_
  try simp -implicitDefEqProofs only [c1,c4,o1,cond_t,cond_f,zh,zt,zj,zk,zZ,zA,zB,zC,zD,zE,zG,zH,zI,zJ,zK,if_true,if_false,reduceCtorEq,zW,zX,zY,za,zb]
  refine call_by (impl_rule [119,104,101,114,101] [] _ (by decide) rfl _) ?_
  rintro r σ' ⟨rfl,rfl⟩
  simp -implicitDefEqProofs only [c1,c4,o1,cond_t,cond_f,zh,zt,zj,zk,zZ,zA,zB,zC,zD,zE,zG,zH,zI,zJ,zK,if_true,if_false,reduceCtorEq,zW,zX,zY,za,zb]
  repeat' (with_reducible refine And.intro (by decide) ?_)
  refine lit_own ?_
  try simp -implicitDefEqProofs only [c1,c4,o1,cond_t,cond_f,zh,zt,zj,zk,zZ,zA,zB,zC,zD,zE,zG,zH,zI,zJ,zK,if_true,if_false,reduceCtorEq,zW,zX,zY,za,zb]
  repeat' (with_reducible refine And.intro (by decide) ?_)
  refine lit_own ?_
  try simp -implicitDefEqProofs only [c1,c4,o1,cond_t,cond_f,zh,zt,zj,zk,zZ,zA,zB,zC,zD,zE,zG,zH,zI,zJ,zK,if_true,if_false,reduceCtorEq,zW,zX,zY,za,zb]
  refine call_by (impl_rule [97,112,97,114,116] [110,111,110,101] _ (by decide) rfl _) ?_
  rintro r σ' ⟨rfl,rfl⟩
  simp -implicitDefEqProofs only [c1,c4,o1,cond_t,cond_f,zh,zt,zj,zk,zZ,zA,zB,zC,zD,zE,zG,zH,zI,zJ,zK,if_true,if_false,reduceCtorEq,zW,zX,zY,za,zb]
  repeat' (with_reducible refine And.intro (by decide) ?_)
  refine lit_own ?_
  try simp -implicitDefEqProofs only [c1,c4,o1,cond_t,cond_f,zh,zt,zj,zk,zZ,zA,zB,zC,zD,zE,zG,zH,zI,zJ,zK,if_true,if_false,reduceCtorEq,zW,zX,zY,za,zb]
  refine call_by (impl_rule [118,111,108,117,109,101] [110,111] _ (by decide) rfl _) ?_
  rintro r σ' ⟨rfl,rfl⟩
  simp -implicitDefEqProofs only [c1,c4,o1,cond_t,cond_f,zh,zt,zj,zk,zZ,zA,zB,zC,zD,zE,zG,zH,zI,zJ,zK,if_true,if_false,reduceCtorEq,zW,zX,zY,za,zb]
  repeat' (with_reducible refine And.intro (by decide) ?_)
  refine lit_own ?_
  try simp -implicitDefEqProofs only [c1,c4,o1,cond_t,cond_f,zh,zt,zj,zk,zZ,zA,zB,zC,zD,zE,zG,zH,zI,zJ,zK,if_true,if_false,reduceCtorEq,zW,zX,zY,za,zb]
  refine call_by (impl_rule [102,111,108,108,111,119] [48,32,48,32,48] _ (by decide) rfl _) ?_
  rintro r σ' ⟨rfl,rfl⟩
  simp -implicitDefEqProofs only [c1,c4,o1,cond_t,cond_f,zh,zt,zj,zk,zZ,zA,zB,zC,zD,zE,zG,zH,zI,zJ,zK,if_true,if_false,reduceCtorEq,zW,zX,zY,za,zb]
  repeat' (with_reducible refine And.intro (by decide) ?_)
  refine lit_own ?_
  try simp -implicitDefEqProofs only [c1,c4,o1,cond_t,cond_f,zh,zt,zj,zk,zZ,zA,zB,zC,zD,zE,zG,zH,zI,zJ,zK,if_true,if_false,reduceCtorEq,zW,zX,zY,za,zb]
  refine call_by (impl_rule [112,97,99,101] [48,32,48,32,48] _ (by decide) rfl _) ?_
  rintro r σ' ⟨rfl,rfl⟩
  simp -implicitDefEqProofs only [c1,c4,o1,cond_t,cond_f,zh,zt,zj,zk,zZ,zA,zB,zC,zD,zE,zG,zH,zI,zJ,zK,if_true,if_false,reduceCtorEq,zW,zX,zY,za,zb]
  repeat' (with_reducible refine And.intro (by decide) ?_)
  refine lit_own ?_
  try simp -implicitDefEqProofs only [c1,c4,o1,cond_t,cond_f,zh,zt,zj,zk,zZ,zA,zB,zC,zD,zE,zG,zH,zI,zJ,zK,if_true,if_false,reduceCtorEq,zW,zX,zY,za,zb]
  refine fin_keep (by simp) ⟨⟨_,_,rfl,own_rules (l:=rules_service) (own_rulesC (own_rule1 ((q_app_get0 σ _).trans rfl) rfl ((q_app_get σ _ 2).trans rfl) rfl) (own_rulesC (own_rule1 ((q_app_get σ _ 3).trans rfl) rfl ((q_app_get σ _ 5).trans rfl) rfl) (own_rulesC (own_rule1 ((q_app_get σ _ 6).trans rfl) rfl ((q_app_get σ _ 8).trans rfl) rfl) (own_rulesC (own_rule1 ((q_app_get σ _ 9).trans rfl) rfl ((q_app_get σ _ 11).trans rfl) rfl) (own_rulesC (own_rule1 ((q_app_get σ _ 12).trans rfl) rfl ((q_app_get σ _ 14).trans rfl) rfl) (own_rulesC (own_rule1 ((q_app_get σ _ 15).trans rfl) rfl ((q_app_get σ _ 17).trans rfl) rfl) (own_rulesC (own_rule1 ((q_app_get σ _ 18).trans rfl) rfl ((q_app_get σ _ 20).trans rfl) rfl) (own_rulesC (own_rule2 ((q_app_get σ _ 21).trans rfl) rfl) (own_rulesC (own_rule1 ((q_app_get σ _ 22).trans rfl) rfl ((q_app_get σ _ 24).trans rfl) rfl) (own_rulesC (own_rule1 ((q_app_get σ _ 25).trans rfl) rfl ((q_app_get σ _ 27).trans rfl) rfl) (own_rulesC (own_rule1 ((q_app_get σ _ 28).trans rfl) rfl ((q_app_get σ _ 30).trans rfl) rfl) (own_rulesC (own_rule1 ((q_app_get σ _ 31).trans rfl) rfl ((q_app_get σ _ 33).trans rfl) rfl) own_rules0)))))))))))) ((q_app_get σ _ 34).trans rfl) rfl,?_⟩,fun h=>absurd h (by decide),fun _ h=>by cases h⟩
  exact wi_add (n:=35) (l:=[34,0,2,3,5,6,8,9,11,12,14,15,17,18,20,21,22,24,25,27,28,30,31,33]) (by simp) (by decide) (by decide)
 simp -implicitDefEqProofs only [zZ,zA,zB,zC,zD,zE,zG,zH,zI,zJ,zK,if_true,if_false,reduceCtorEq,zW,zX,zY,za,zb]
 have hk:kindOk kind=false:=by simp only [kindOk,h0,h1,h2]; rfl
 refine ret_same0 rfl ⟨?_,fun _=>⟨rfl,rfl⟩,fun h=>absurd (hk.symm.trans h) (by decide)⟩
 rw [rulesR_none hk]
 exact ⟨[],[],(List.append_nil _).symm,by simp [Own,mkRes],Wi.nil⟩
theorem impl_SheetRulesF (kind:List UInt8) (σ:Store):ACalls Tryd.prog 13 [.t (.str kind)] σ fun r σ'=>r=(if kindOk kind=true then .t (tSheetRuleS (rulesR kind)) else .nils)∧σ'=σ:=by
 by_cases hk:kindOk kind=true
 ·rw [if_pos hk]
  exact acalls_frzT ((impl_SheetRules kind σ).mono fun r σ' h=>h.1)
 ·rw [if_neg hk]
  exact (impl_SheetRules kind σ).mono fun r σ' h=>h.2.1 (by simpa using hk)
theorem rulesR_cases {P:List SheetRule→Prop} (kind:List UInt8) (h0:P []) (h1:P rules_team) (h2:P rules_berth) (h3:P rules_service):P (rulesR kind):=by
 by_cases hk:kindOk kind=true
 ·rcases rulesR_some hk with ⟨h,_⟩ | ⟨h,_⟩ | ⟨h,_⟩ <;> rw [h] <;> assumption
 ·rw [rulesR_none (by simpa using hk)]; exact h0
def ruleSmall (x:SheetRule):Bool:=decide (x.Key.length≤20) && decide (x.Args.length≤5) && x.Args.all (fun n=>decide (1≤n) && decide (n≤6)) && decide (x.Default.length≤5) && x.Default.all (fun s=>decide (s.length≤20))
theorem rules_small (kind:List UInt8):(rulesR kind).length≤12∧(rulesR kind).all ruleSmall=true :=
 rulesR_cases (P:=fun l=>l.length≤12∧l.all ruleSmall=true) kind ⟨by decide,rfl⟩ ⟨by decide,rfl⟩ ⟨by decide,rfl⟩ ⟨by decide,rfl⟩
end Go.Proofs.YtnnnemgbgilfaaaDoor.W
end
