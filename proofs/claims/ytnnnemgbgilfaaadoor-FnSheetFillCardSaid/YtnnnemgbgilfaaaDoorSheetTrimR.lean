/- How lines are deleted in their place. Conditions: none. -/
/- How a sheet is trimmed in its place. Conditions: none. -/
/- What a trimmed sheet is. Conditions: none. -/
import Derived.Test.YtnnnemgbgilfaaaDoorSheetTrimC
import Derived.Test.YtnnnemgbgilfaaaDoorAb6
set_option linter.unusedSimpArgs false
set_option linter.unusedVariables false
set_option linter.defProp false
open Go.Ab renaming eget → zC, env0 → zD, isNilP → zI, isNilS → zJ, lenSl → zH, lenStr → zG, nat_nn → zV, opv → zA, opvs → zB, putAt → zK, setD → zE
open List renaming getElem?_map → zm, length_append → zt, length_cons → zj, length_map → zh, length_nil → zk, length_set → zl, map_nil → zx, nil_append → zr
open Nat renaming reduceAdd → zb, reduceEqDiff → zX, reduceLeDiff → zW, reduceMul → za, reduceSub → zY, zero_add → ze, zero_le → zd
open Option renaming map_some → yA
section
open Go Go.Ab
set_option maxHeartbeats 2000000
namespace Go.Proofs.YtnnnemgbgilfaaaDoor.W
theorem findI_all {α:Type} {p:α→Bool}:∀ {l:List α} {k:Nat},(findI p l k=-1∧∀ x∈l,p x=false)∨∃ i x,l[i]?=some x∧p x=true∧findI p l k=((k+i:Nat):Int)∧∀ y∈l.take i,p y=false
 | [],k=>.inl ⟨rfl,by simp⟩
 | a::l,k=>by
  rcases ha:p a with _ | _
  ·rw [findI,if_neg (by rw [ha]; simp)]
   rcases findI_all (p:=p) (l:=l) (k:=k+1) with ⟨h1,h2⟩ | ⟨i,x,h1,h2,h3,h4⟩
   ·refine .inl ⟨h1,fun x hx=>?_⟩
    rcases List.mem_cons.1 hx with rfl | hx
    ·exact ha
    ·exact h2 x hx
   ·refine .inr ⟨i+1,x,by simpa using h1,h2,by rw [h3]; congr 1; omega,fun y hy=>?_⟩
    rw [List.take_succ_cons] at hy
    rcases List.mem_cons.1 hy with rfl | hy
    ·exact ha
    ·exact h4 y hy
  ·exact .inr ⟨0,a,rfl,ha,by rw [findI,if_pos ha]; rfl,by simp⟩
def dropQ (kind:List UInt8) (q:QL):Bool:=!keepQ kind q
def c_slices_IndexFunc___impl_SheetLine_impl_SheetLine_:C:=(.seq (.ops [⟨some 4,none,.mv (.c (.t (.int .i64 0)))⟩]) (.seq (.seq (.ops [⟨some 6,none,.mv (.t 0)⟩,⟨some 7,none,.len false (.t 6)⟩,⟨some 8,none,.mv (.c (.t (.int .i64 0)))⟩]) (.block 0 (.loop (.seq (.ops [⟨some 9,none,.bin .lss (.t 8) (.t 7)⟩]) (.seq (.cond (.t 9) .skip (.exit 0)) (.seq (.block 1 (.seq (.ops [⟨some 10,none,.mv (.t 8)⟩,⟨some 5,none,.mv (.t 10)⟩]) (.seq (.ops [⟨some 11,none,.mv (.t 1)⟩,⟨some 12,none,.mv (.t 0)⟩,⟨some 13,none,.mv (.t 5)⟩,⟨some 14,none,.indexAddr 2 (.t 12) (.t 13)⟩,⟨some 15,none,.load (some 2) (.t 14)⟩,⟨some 16,none,.call (.t 11) [.t 15]⟩]) (.cond (.t 16) (.seq (.ops [⟨some 17,none,.mv (.t 5)⟩,⟨some 4,none,.mv (.t 17)⟩]) .ret) .skip)))) (.ops [⟨some 18,none,.bin .add (.t 8) (.c (.t (.int .i64 1)))⟩,⟨some 8,none,.mv (.t 18)⟩]))))))) (.seq (.ops [⟨some 4,none,.mv (.c (.t (.int .i64 (-1))))⟩]) .ret)))
theorem k_slices_IndexFunc___impl_SheetLine_impl_SheetLine_:comp Tryd.prog 19 (Tryd.f59.body.getD .skip)=some c_slices_IndexFunc___impl_SheetLine_impl_SheetLine_:=by kernel_rfl
set_option maxHeartbeats 8000000 in
theorem index_lines (kind:List UInt8) (p id n i:Nat) (L:List QL) (hb:L.length≤1048576) (hi:i<n) (hL:∀ q∈L,q.x.Ok∧∃ r,ruleOf kind q.x.Key=some r) (lv:V) (σ:Store) (hl:QV σ L lv) (hg:TG kind p id n i L σ):ACalls Tryd.prog 59 [lv,.fn (.func 29) [.ptr p 0]] σ fun rr σ'=>rr=.t (.int .i64 (findI (dropQ kind) L 0))∧σ'=σ:=by
 refine acalls_of Tryd.func59 (by decide +kernel) (code:=Tryd.f59.body.getD .skip) (n:=19) (c:=c_slices_IndexFunc___impl_SheetLine_impl_SheetLine_) (rs:=[(.tmp 4)]) rfl rfl k_slices_IndexFunc___impl_SheetLine_impl_SheetLine_ (by kernel_rfl) (by simp) (fun hσ=>?_)
 have o0:=hl.one
 have l0:=hl.len
 simp only [zH] at l0
 have hpl:=(List.getElem?_eq_some_iff.1 hg.bx).1
 have lvl:lv.lt σ.length=true:=by
  rcases hl with ⟨_,rfl | rfl⟩ | ⟨id,rfl,h⟩
  ·rfl
  ·rfl
  ·simp only [V.lt,decide_eq_true_eq]; exact (List.getElem?_eq_some_iff.1 h).1
 simp -implicitDefEqProofs only [c_slices_IndexFunc___impl_SheetLine_impl_SheetLine_,o0,l0,zh,zZ,zA,zB,zC,zD,zE,zG,zH,zI,zJ,zK,if_true,if_false,reduceCtorEq,zW,zX,zY,za,zb]
 refine loop_p [8,0,1,7] [0,1,7] (fun k:Nat=>[(8,.t (.int .i64 (k:Nat)))]) (fun k=>k≤L.length∧findI (dropQ kind) (L.drop k) k=findI (dropQ kind) L 0) (fun k=>L.length - k) 0 (by simp) ⟨Nat.zero_le _,rfl⟩ rfl ?_
 rintro k ⟨hk,hall⟩
 simp -implicitDefEqProofs only [keep,zh,zZ,zA,zB,zC,zD,zE,zG,zH,zI,zJ,zK,if_true,if_false,reduceCtorEq,zW,zX,zY,za,zb]
 refine cond_split (fun h1=>?_) (fun h1=>?_)
 ·obtain ⟨x,hx,hlt⟩:=at_of h1
  have hxm:=List.mem_of_getElem? hx
  have hd:=drop_of hx
  have more:=i64_succ (show k<4611686018427387904 by omega)
  have ox:=(hg.ats x hxm).one
  rw [hd] at hall
  rcases hl with ⟨h0,_⟩ | ⟨lid,rfl,hob⟩
  ·rw [h0] at hx; cases hx
  have hrl:(L.map QL.row).length=L.length:=List.length_map ..
  have hri:(L.map QL.row)[k]?=some [.t (.str x.x.Key),x.w]:=by rw [List.getElem?_map,hx]; rfl
  have kx:((k:Nat):Int)<((L.length:Nat):Int):=by omega
  simp -implicitDefEqProofs only [hob,hrl,hri,kx,ox,ze,more,zV,zd,zZ,zA,zB,zC,zD,zE,zG,zH,zI,zJ,zK,if_true,if_false,reduceCtorEq,zW,zX,zY,za,zb]
  have ht1:=trim1 kind p id n i L x hxm hi (hL x hxm).1 (hL x hxm).2 σ hg
  simp only [QL.row] at ht1
  refine call_by ht1 ?_
  rintro r σ' ⟨rfl,rfl⟩
  simp -implicitDefEqProofs only [more,zZ,zA,zB,zC,zD,zE,zG,zH,zI,zJ,zK,if_true,if_false,reduceCtorEq,zW,zX,zY,za,zb]
  refine cond_split (fun g1=>?_) (fun g1=>?_)
  ·rw [findI,if_pos (show dropQ kind x=true from g1)] at hall
   simp -implicitDefEqProofs only [zZ,zA,zB,zC,zD,zE,zG,zH,zI,zJ,zK,if_true,if_false,reduceCtorEq,zW,zX,zY,za,zb]
   exact ret_same0 rfl ⟨by rw [← hall]; rfl,rfl⟩
  ·rw [findI,if_neg (by rw [show dropQ kind x=false from g1]; simp)] at hall
   simp -implicitDefEqProofs only [more,zZ,zA,zB,zC,zD,zE,zG,zH,zI,zJ,zK,if_true,if_false,reduceCtorEq,zW,zX,zY,za,zb]
   first | exact lk_p0 (k+1) (by simp) (by simp) (by omega) ⟨by omega,hall⟩ rfl | exact lk_p (k+1) (by simp) (by simp) hσ rfl (by omega) ⟨by omega,hall⟩ rfl rfl | exact lk_pm (k+1) (Nat.le_refl _) (by simp) hσ rfl rfl (by omega) ⟨by omega,hall⟩ (by simp [ltE,keep,eget,V.lt]) rfl
 ·have hkk:=end_of h1 hk
  rw [hkk,List.drop_length] at hall
  simp -implicitDefEqProofs only [zZ,zA,zB,zC,zD,zE,zG,zH,zI,zJ,zK,if_true,if_false,reduceCtorEq,zW,zX,zY,za,zb]
  exact ret_same0 rfl ⟨by rw [← hall]; rfl,rfl⟩
structure GdT where
 a:Nat
 j:Nat
 s:Store
 R:List QL
structure DI (kind:List UInt8) (p id n i lid:Nat) (L:List QL) (σ:Store) (g:GdT):Prop where
 aj:g.a≤g.j
 jn:g.j≤L.length
 rl:g.R.length=L.length
 tk:g.R.take g.a=(L.take g.j).filter (keepQ kind)
 dr:g.R.drop g.j=L.drop g.j
 le:σ.length≤g.s.length
 fr:∀ x,x<σ.length→x≠lid→g.s[x]?=σ[x]?
 ob:g.s[lid]?=some (.slc 2 (g.R.map QL.row))
 tg:TG kind p id n i L g.s
def DelR (kind:List UInt8) (L:List QL) (lv:V) (σ:Store) (r:V) (s':Store):Prop :=
 (L=[]∧(r=.nils∨r=.rows 2 [])∧lv=r∧s'=σ)∨∃ lid zs,lv=.sl lid L.length 0 L.length∧r=.sl lid ((L.filter (keepQ kind)).length+zs.length) 0 (L.filter (keepQ kind)).length∧s'[lid]?=some (.slc 2 ((L.filter (keepQ kind)).map QL.row++zs))∧σ.length≤s'.length∧∀ x,x<σ.length→x≠lid→s'[x]?=σ[x]?
def c_slices_DeleteFunc___impl_SheetLine_impl_SheetLine_:C:=(.seq (.ops [⟨some 4,none,.mv (.c .nils)⟩]) (.seq (.ops [⟨some 8,none,.mv (.t 0)⟩,⟨some 9,none,.mv (.t 1)⟩,⟨some 10,none,.call (.c (.fn (.func 59) [])) [.t 8,.t 9]⟩,⟨some 5,none,.mv (.t 10)⟩]) (.seq (.seq (.ops [⟨some 11,none,.mv (.t 5)⟩,⟨some 12,none,.bin .eql (.t 11) (.c (.t (.int .i64 (-1))))⟩]) (.cond (.t 12) (.seq (.ops [⟨some 13,none,.mv (.t 0)⟩,⟨some 4,none,.mv (.t 13)⟩]) .ret) .skip)) (.seq (.seq (.ops [⟨some 14,none,.mv (.t 5)⟩,⟨some 15,none,.bin .add (.t 14) (.c (.t (.int .i64 1)))⟩,⟨some 6,none,.mv (.t 15)⟩]) (.block 0 (.loop (.seq (.seq (.ops [⟨some 16,none,.mv (.t 6)⟩,⟨some 17,none,.mv (.t 0)⟩,⟨some 18,none,.len false (.t 17)⟩,⟨some 19,none,.bin .lss (.t 16) (.t 18)⟩]) (.cond (.t 19) .skip (.exit 0))) (.seq (.block 1 (.seq (.ops [⟨some 22,none,.mv (.t 0)⟩,⟨some 23,none,.mv (.t 6)⟩,⟨some 24,none,.indexAddr 2 (.t 22) (.t 23)⟩,⟨some 25,none,.load (some 2) (.t 24)⟩,⟨some 7,none,.new [.t (.str []),.nils]⟩,⟨none,none,.store 2 (.t 7) (.t 25)⟩]) (.seq (.ops [⟨some 26,none,.mv (.t 1)⟩,⟨some 27,none,.load (some 2) (.t 7)⟩,⟨some 28,none,.call (.t 26) [.t 27]⟩,⟨some 29,none,.un .not (.t 28)⟩]) (.cond (.t 29) (.seq (.ops [⟨some 30,none,.mv (.t 0)⟩,⟨some 31,none,.mv (.t 5)⟩,⟨some 32,none,.load (some 2) (.t 7)⟩,⟨some 33,none,.indexAddr 2 (.t 30) (.t 31)⟩,⟨none,none,.store 2 (.t 33) (.t 32)⟩]) (.ops [⟨some 34,none,.mv (.t 5)⟩,⟨some 35,none,.bin .add (.t 34) (.c (.t (.int .i64 1)))⟩,⟨some 5,none,.mv (.t 35)⟩])) .skip)))) (.ops [⟨some 20,none,.mv (.t 6)⟩,⟨some 21,none,.bin .add (.t 20) (.c (.t (.int .i64 1)))⟩,⟨some 6,none,.mv (.t 21)⟩])))))) (.seq (.ops [⟨some 36,none,.mv (.t 0)⟩,⟨some 37,none,.mv (.t 5)⟩,⟨some 38,none,.sliceSl 2 (.t 36) (some (.t 37)) none⟩,⟨none,none,.clr 2 [.t (.str []),.nils] (.t 38)⟩]) (.seq (.ops [⟨some 39,none,.mv (.t 0)⟩,⟨some 40,none,.mv (.t 5)⟩,⟨some 41,none,.sliceSl 2 (.t 39) none (some (.t 40))⟩,⟨some 4,none,.mv (.t 41)⟩]) .ret))))))
theorem k_slices_DeleteFunc___impl_SheetLine_impl_SheetLine_:comp Tryd.prog 42 (Tryd.f28.body.getD .skip)=some c_slices_DeleteFunc___impl_SheetLine_impl_SheetLine_:=by kernel_rfl
set_option maxHeartbeats 8000000 in
theorem delete_lines (kind:List UInt8) (p id n i:Nat) (L:List QL) (hb:L.length≤1048576) (hi:i<n) (hL:∀ q∈L,q.x.Ok∧∃ r,ruleOf kind q.x.Key=some r) (lv:V) (σ:Store) (hl:QV σ L lv) (hg:TG kind p id n i L σ):ACalls Tryd.prog 28 [lv,.fn (.func 29) [.ptr p 0]] σ (DelR kind L lv σ):=by
 refine acalls_of Tryd.func28 (by decide +kernel) (code:=Tryd.f28.body.getD .skip) (n:=42) (c:=c_slices_DeleteFunc___impl_SheetLine_impl_SheetLine_) (rs:=[(.tmp 4)]) rfl rfl k_slices_DeleteFunc___impl_SheetLine_impl_SheetLine_ (by kernel_rfl) (by simp) (fun hσ=>?_)
 have o0:=hl.one
 have l0:=hl.len
 simp only [zH] at l0
 simp -implicitDefEqProofs only [c_slices_DeleteFunc___impl_SheetLine_impl_SheetLine_,o0,l0,zh,zZ,zA,zB,zC,zD,zE,zG,zH,zI,zJ,zK,if_true,if_false,reduceCtorEq,zW,zX,zY,za,zb]
 refine call_pure (index_lines kind p id n i L hb hi hL lv _ hl hg) ?_
 rcases findI_all (p:=dropQ kind) (l:=L) (k:=0) with ⟨h1,h2⟩ | ⟨a0,x0,h1,h2,h3,h4⟩
 ·rw [h1]
  have d1:((-1:Int) == -1)=true:=rfl
  simp -implicitDefEqProofs only [o0,d1,cond_t,cond_f,zZ,zA,zB,zC,zD,zE,zG,zH,zI,zJ,zK,if_true,if_false,reduceCtorEq,zW,zX,zY,za,zb]
  have hf:L.filter (keepQ kind)=L:=by
   rw [List.filter_eq_self]
   intro q hq
   have:=h2 q hq
   simpa [dropQ] using this
  refine fin_keep (Nat.le_refl _) ?_
  rcases hl with ⟨h0,h1⟩ | ⟨lid,rfl,hob⟩
  ·exact .inl ⟨h0,h1,rfl,rfl⟩
  ·exact .inr ⟨lid,[],rfl,by rw [hf]; rfl,by rw [hf,List.append_nil]; exact hob,Nat.le_refl _,fun _ _ _=>rfl⟩
 rw [h3,Nat.zero_add]
 have hal:=(List.getElem?_eq_some_iff.1 h1).1
 have d1:(((a0:Nat):Int) == -1)=false:=by simp
 have more0:=i64_succ (show a0<4611686018427387904 by omega)
 rcases hl with ⟨h0,_⟩ | ⟨lid,rfl,hob⟩
 ·rw [h0] at h1; cases h1
 simp -implicitDefEqProofs only [o0,d1,more0,cond_t,cond_f,zZ,zA,zB,zC,zD,zE,zG,zH,zI,zJ,zK,if_true,if_false,reduceCtorEq,zW,zX,zY,za,zb]
 have ht0:L.take a0=(L.take (a0+1)).filter (keepQ kind):=by
  rw [take_of h1,List.filter_append,List.filter_cons,List.filter_nil,if_neg (by simpa [dropQ] using h2),List.append_nil,List.filter_eq_self.2]
  intro q hq
  have:=h4 q hq
  simpa [dropQ] using this
 refine loop_g [5,6,0,1] [0,1] (fun g:GdT=>[(5,.t (.int .i64 (g.a:Nat))),(6,.t (.int .i64 (g.j:Nat)))]) GdT.s (DI kind p id n i lid L σ) (fun g=>L.length - g.j) ⟨a0,a0+1,σ,L⟩ (Nat.le_refl _) ⟨by simp,hal,rfl,ht0,rfl,Nat.le_refl _,fun _ _ _=>rfl,hob,hg⟩ rfl rfl ?_
 rintro ⟨a,j,s,R⟩ hd
 have haj:a≤j:=hd.aj
 have hjn:j≤L.length:=hd.jn
 have hRl:R.length=L.length:=hd.rl
 have htk:R.take a=(L.take j).filter (keepQ kind):=hd.tk
 have hdr:R.drop j=L.drop j:=hd.dr
 have hle:σ.length≤s.length:=hd.le
 have hfr:∀ x,x<σ.length→x≠lid→s[x]?=σ[x]?:=hd.fr
 have hobs:s[lid]?=some (.slc 2 (R.map QL.row)):=hd.ob
 have htg:TG kind p id n i L s:=hd.tg
 have hlid:=(List.getElem?_eq_some_iff.1 hobs).1
 simp -implicitDefEqProofs only [keep,zh,zZ,zA,zB,zC,zD,zE,zG,zH,zI,zJ,zK,if_true,if_false,reduceCtorEq,zW,zX,zY,za,zb]
 refine cond_split (fun c1=>?_) (fun c1=>?_)
 ·obtain ⟨q,hq,hlt⟩:=at_of c1
  have hqm:=List.mem_of_getElem? hq
  have ox:=(htg.ats q hqm).one
  have more:=i64_succ (show j<4611686018427387904 by omega)
  have more2:=i64_succ (show a<4611686018427387904 by omega)
  have hqR:R[j]?=some q:=by
   have:=congrArg (fun l=>l[0]?) hdr
   simpa [hq] using this
  have hrl:(R.map QL.row).length=L.length:=by rw [List.length_map,hRl]
  have hri:(R.map QL.row)[j]?=some [.t (.str q.x.Key),q.w]:=by rw [List.getElem?_map,hqR]; rfl
  have kx:((j:Nat):Int)<((L.length:Nat):Int):=by omega
  have ax:((a:Nat):Int)<((L.length:Nat):Int):=by omega
  simp -implicitDefEqProofs only [hobs,hrl,hri,kx,ox,ze,zV,zd,zZ,zA,zB,zC,zD,zE,zG,zH,zI,zJ,zK,if_true,if_false,reduceCtorEq,zW,zX,zY,za,zb]
  have hfil:(L.take (j+1)).filter (keepQ kind)=(L.take j).filter (keepQ kind)++(if keepQ kind q=true then [q] else []):=by
   rw [take_of hq,List.filter_append,List.filter_cons,List.filter_nil]
  obtain ⟨s1,hs1⟩:∃ s1:Store,s1=s++[Go.Ab.Obj.box [.t (.str q.x.Key),q.w]]:=⟨_,rfl⟩
  have l1:s1.length=s.length+1:=by rw [hs1]; simp
  have k1:Kp s s1:=by rw [hs1]; exact Kp.app _ _
  have bx1:s1[s.length]?=some (.box [.t (.str q.x.Key),q.w]):=by rw [hs1]; simp
  have ob1:=k1.box hobs
  rw [← hs1]
  have ht1:=trim1 kind p id n i L q hqm hi (hL q hqm).1 (hL q hqm).2 s1 (htg.kp k1)
  simp only [QL.row] at ht1
  refine call_by ht1 ?_
  rintro r σ' ⟨rfl,he⟩
  rw [he]
  rcases hkq:keepQ kind q with _ | _
  ·simp -implicitDefEqProofs only [hkq,cond_t,cond_f,Bool.not_false,Bool.not_true,more,zZ,zA,zB,zC,zD,zE,zG,zH,zI,zJ,zK,if_true,if_false,reduceCtorEq,zW,zX,zY,za,zb]
   rw [hkq,if_neg (by simp),List.append_nil] at hfil
   refine lk_g ⟨a,j+1,s1,R⟩ (by simp only; omega) ⟨by simp only; omega,hlt,hRl,by simp only; rw [hfil]; exact htk,?_,by simp only; omega,fun x hx hne=>?_,ob1,htg.kp k1⟩ (by omega) rfl rfl
   ·simp only
    rw [← List.drop_drop,← List.drop_drop,hdr]
   ·simp only
    rw [k1 x (by omega)]; exact hfr x hx hne
  ·obtain ⟨qa,hqa⟩:∃ qa,R[a]?=some qa:=⟨R[a],List.getElem?_eq_getElem (by omega)⟩
   have hra:(R.map QL.row)[a]?=some [.t (.str qa.x.Key),qa.w]:=by rw [List.getElem?_map,hqa]; rfl
   simp -implicitDefEqProofs only [hkq,bx1,ob1,hrl,hra,ax,ox,ze,cond_t,cond_f,Bool.not_false,Bool.not_true,more,more2,zV,zd,zZ,zA,zB,zC,zD,zE,zG,zH,zI,zJ,zK,if_true,if_false,reduceCtorEq,zW,zX,zY,za,zb]
   rw [hkq,if_pos rfl] at hfil
   have hset:(R.map QL.row).set a [.t (.str q.x.Key),q.w]=(R.set a q).map QL.row:=by rw [List.map_set]; rfl
   rw [hset]
   refine lk_g ⟨a+1,j+1,s1.set lid (.slc 2 ((R.set a q).map QL.row)),R.set a q⟩ (by simp only; omega) ⟨by simp only; omega,hlt,by rw [List.length_set]; exact hRl,?_,?_,by simp only [zl]; omega,fun x hx hne=>?_,?_,(htg.kp k1).set ob1 _⟩ (by simp only [zl]; omega) rfl rfl
   ·simp only
    rw [hfil,← htk,take_of (List.getElem?_set_self (by omega)),List.take_set_of_le (Nat.le_refl _)]
   ·simp only
    rw [List.drop_set_of_lt (by omega),← List.drop_drop,← List.drop_drop,hdr]
   ·simp only
    rw [List.getElem?_set_ne (fun e=>hne e.symm),k1 x (by omega)]; exact hfr x hx hne
   ·simp only
    exact List.getElem?_set_self (by omega)
 ·have hjj:=end_of c1 hjn
  rw [hjj,List.take_length] at htk
  have hrl:(R.map QL.row).length=L.length:=by rw [List.length_map,hRl]
  have al:((a:Nat):Int)≤((L.length:Nat):Int):=by omega
  have a0':(0:Int)≤((a:Nat):Int):=by omega
  simp -implicitDefEqProofs only [hobs,hrl,al,zV,zd,ze,Nat.sub_zero,zZ,zA,zB,zC,zD,zE,zG,zH,zI,zJ,zK,if_true,if_false,reduceCtorEq,zW,zX,zY,za,zb]
  refine ⟨by omega,by omega,?_⟩
  have hfl:(L.filter (keepQ kind)).length=a:=by rw [← htk,List.length_take]; omega
  have hO:List.take a (R.map QL.row)++(List.replicate (L.length - a) [V.t (T.str []),V.nils]++List.drop (a+(L.length - a)) (R.map QL.row))=(L.filter (keepQ kind)).map QL.row++List.replicate (L.length - a) [V.t (T.str []),V.nils]:=by
   rw [← List.map_take,htk,List.drop_of_length_le (by rw [hrl]; omega),List.append_nil]
  rw [hO,List.getElem?_set_self hlid]
  simp only [onSlc]
  refine ⟨trivial,by rw [List.length_append,List.length_map,List.length_replicate,hfl]; omega,by omega,?_⟩
  refine fin_keep (by rw [List.length_set]; exact hle) (.inr ⟨lid,_,rfl,?_,List.getElem?_set_self hlid,by rw [List.length_set]; exact hle,fun x hx hne=>?_⟩)
  ·rw [List.length_replicate,hfl,show a+(L.length - a)=L.length by omega]; rfl
  ·rw [List.getElem?_set_ne (fun e=>hne e.symm)]; exact hfr x hx hne
end Go.Proofs.YtnnnemgbgilfaaaDoor.W
end
section
open Go Go.Ab
set_option maxHeartbeats 2000000
namespace Go.Proofs.YtnnnemgbgilfaaaDoor.W
theorem flat_sub {α:Type} {f:α→List Nat} {p:α→Bool}:∀ L:List α,((L.filter p).flatMap f).Sublist (L.flatMap f)
 | []=>List.Sublist.refl _
 | a::L=>by
  rw [List.filter_cons]
  split
  ·rw [List.flatMap_cons,List.flatMap_cons]
   exact List.Sublist.append (List.Sublist.refl _) (flat_sub L)
  ·rw [List.flatMap_cons]
   exact (flat_sub L).trans (List.sublist_append_right _ _)
theorem ownCR_app {s:Store}:∀ {a:List (List T)} {us:List (List V)} {ps:List (Nat × Nat)} {b:List (List T)} {vs:List (List V)} {qs:List (Nat × Nat)},OwnCR s a us ps→OwnCR s b vs qs→OwnCR s (a++b) (us++vs) (ps++qs)
 | [],_,_,_,_,_,h,k=>by simp only [OwnCR] at h; obtain ⟨rfl,rfl⟩:=h; exact k
 | r::a,_,_,_,_,_,h,k=>by
  simp only [OwnCR] at h
  obtain ⟨u,us,i,j,rfl,rfl,h1,h2⟩:=h
  simp only [List.cons_append,OwnCR,List.append_assoc]
  exact ⟨u,_,i,_,rfl,rfl,h1,ownCR_app h2 k⟩
theorem ownCR_one {s:Store} {r:List T} {u:List V} {ps:List (Nat × Nat)} (h:OwnCL s r u ps):OwnCR s [r] [u] ps:=by
 simp only [OwnCR]
 exact ⟨u,[],ps,[],rfl,by simp,h,rfl,rfl⟩
theorem blk_ownC {s:Store} {b:SheetBlock} {v:V} {qs:List (Nat × Nat)} (h:OwnC s (tSheetLineS b.Lines) v qs):OwnCL s b.ts [.t (.str b.Kind),.t (.str b.Name),v] qs:=by
 simp only [SheetBlock.ts,OwnCL]
 exact ⟨_,_,[],qs,rfl,rfl,by simp only [OwnC,and_self],_,_,[],qs,rfl,rfl,by simp only [OwnC,and_self],_,_,qs,[],rfl,by simp,h,rfl,rfl⟩
structure TB (N:Nat) (s:Store) (bs:List SheetBlock) (i id:Nat) (ra rb:List (List V)) (ps:List (Nat × Nat)) (js:List Nat):Prop where
 ob:s[id]?=some (.slc 3 (ra++rb))
 la:ra.length=i
 lb:(ra++rb).length=bs.length
 oa:OwnCR s (((bs.take i).map trimB).map SheetBlock.ts) ra ps
 or:OwnR s ((bs.drop i).map SheetBlock.ts) rb js
 nd:(id::(ps.map Prod.fst++js)).Nodup
 lo:∀ x∈id::(ps.map Prod.fst++js),N≤x
def TI (N:Nat) (s:Store) (bs:List SheetBlock) (i:Nat) (v:V):Prop:=(bs=[]∧(v=.nils∨v=.rows 3 []))∨∃ id ra rb ps js,v=.sl id bs.length 0 bs.length∧TB N s bs i id ra rb ps js
theorem TI.of {N:Nat} {s:Store} {bs:List SheetBlock} {v:V} {is:List Nat} (h:Own s (tSheetBlockS bs) v is) (hw:Wi is N s.length):TI N s bs 0 v:=by
 simp only [tSheetBlockS,Own] at h
 obtain ⟨_,⟨h0,rfl,h1⟩ | ⟨id,js,rs,rfl,rfl,h1,h2⟩⟩:=h
 ·exact .inl ⟨by simpa using h0,h1⟩
 ·have hl:=h2.len
  rw [List.length_map] at hl
  refine .inr ⟨id,[],rs,[],js,by rw [hl],⟨h1,rfl,hl,?_,h2,hw.1,fun x hx=>(hw.2 x hx).1⟩⟩
  simp [OwnCR]
theorem TB.done {N:Nat} {s:Store} {bs:List SheetBlock} {id:Nat} {ra rb:List (List V)} {ps:List (Nat × Nat)} {js:List Nat} (h:TB N s bs bs.length id ra rb ps js):OwnC s (tSheetBlockS (bs.map trimB)) (.sl id bs.length 0 bs.length) ((id,bs.length)::ps):=by
 have hrb:rb=[]:=by
  have h1:=h.lb
  have h2:=h.la
  rw [List.length_append] at h1
  exact List.length_eq_zero_iff.1 (by omega)
 have hob:=h.ob
 have hoa:=h.oa
 rw [hrb] at hob
 rw [List.take_length] at hoa
 simp only [tSheetBlockS,OwnC]
 refine ⟨by omega,.inr ⟨id,ps,ra,[],by rw [h.la],by simp [h.la],hob,hoa⟩⟩
theorem own_pair {s s':Store} {rows:List (List T)} {rs:List (List V)} {ps:List (Nat × Nat)} (h:OwnCR s rows rs ps) (k:∀ x∈ps.map Prod.fst,s'[x]?=s[x]?):OwnCR s' rows rs ps :=
 h.frame fun p hp=>k p.1 (List.mem_map.2 ⟨p,hp,rfl⟩)
theorem lines_ql2 {s:Store} {ls:List SheetLine} {lv:V} {js:List Nat} (h:Own s (tSheetLineS ls) lv js) (hn:js.Nodup):∃ L:List QL,L.map QL.x=ls∧QV s L lv∧(∀ q∈L,q.at s)∧(L.flatMap QL.is).Nodup∧((js=[]∧L=[]∧(lv=.nils∨lv=.rows 2 []))∨∃ lid,js=lid::L.flatMap QL.is∧lv=.sl lid L.length 0 L.length):=by
 simp only [tSheetLineS,Own] at h
 obtain ⟨_,⟨h0,rfl,h1⟩ | ⟨id,js0,rs,rfl,rfl,h1,h2⟩⟩:=h
 ·have hl:ls=[]:=by simpa using h0
  exact ⟨[],by rw [hl]; rfl,.inl ⟨rfl,h1⟩,by simp,by simp,.inl ⟨rfl,rfl,h1⟩⟩
 ·obtain ⟨L,rfl,rfl,rfl,h3⟩:=ql_of h2
  exact ⟨L,rfl,.inr ⟨id,by rw [List.length_map],h1⟩,h3,(List.nodup_cons.1 hn).2,.inr ⟨id,rfl,by rw [List.length_map]⟩⟩
theorem del_own {kind:List UInt8} {L:List QL} {lv r:V} {s2 s3:Store} {js:List Nat} (h:DelR kind L lv s2 r s3) (hLa:∀ q∈L,q.at s2) (hn:js.Nodup) (hlid:∀ lid,lv=.sl lid L.length 0 L.length→s2[lid]?=some (.slc 2 (L.map QL.row)))
  (hstr:(js=[]∧L=[]∧(lv=.nils∨lv=.rows 2 []))∨∃ lid,js=lid::L.flatMap QL.is∧lv=.sl lid L.length 0 L.length) :
  s2.length≤s3.length∧(∀ (x:Nat) (o:Go.Ab.Obj),s2[x]?=some o→(∀ R,o≠.slc 2 R)→s3[x]?=some o)∧Go.Ab.one r=true∧(∀ x,x<s2.length→x∉js→s3[x]?=s2[x]?)∧∃ qs,OwnC s3 (tSheetLineS (trimL kind (L.map QL.x))) r qs∧(qs.map Prod.fst).Sublist js:=by
 rcases h with ⟨h0,h1,rfl,rfl⟩ | ⟨lid,zs,h1,h2,h3,h4,h5⟩
 ·subst h0
  refine ⟨Nat.le_refl _,fun x o h _=>h,by rcases h1 with rfl | rfl <;> rfl,fun _ _ _=>rfl,[],?_,by simp⟩
  simp only [tSheetLineS,trimL,zx,List.filter_nil,OwnC]
  exact ⟨by omega,.inl ⟨trivial,trivial,h1⟩⟩
 ·have hl2:=hlid lid h1
  have hjs:js=lid::L.flatMap QL.is:=by
   rcases hstr with ⟨_,h6,h7⟩ | ⟨lid',h6,h7⟩
   ·rw [h1] at h7
    rcases h7 with h7 | h7 <;> cases h7
   ·rw [h1] at h7
    simp only [V.sl.injEq] at h7
    rw [h6,h7.1]
  subst hjs
  obtain ⟨n1,n2⟩:=List.nodup_cons.1 hn
  have hat:∀ q∈L.filter (keepQ kind),q.at s3:=fun q hq=>by
   have hqL:=(List.mem_filter.1 hq).1
   refine Own.frame (hLa q hqL) fun x hx=>h5 x ((hLa q hqL).lt x hx) fun e=>?_
   subst e
   exact n1 (List.mem_flatMap.2 ⟨q,hqL,hx⟩)
  obtain ⟨qs,hq1,hq2⟩:=(ql_own hat).c
  refine ⟨h4,fun x o ho hne=>?_,by rw [h2]; rfl,fun x hx hnm=>h5 x hx fun e=>hnm (by rw [e]; simp),(lid,(L.filter (keepQ kind)).length)::qs,?_,?_⟩
  ·rw [h5 x (List.getElem?_eq_some_iff.1 ho).1 fun e=>by subst e; rw [hl2] at ho; exact hne _ (Option.some.inj ho).symm]; exact ho
  ·have hx:trimL kind (L.map QL.x)=(L.filter (keepQ kind)).map QL.x:=by rw [trimL,List.filter_map]; rfl
   simp only [tSheetLineS,OwnC]
   rw [hx]
   exact ⟨by omega,.inr ⟨lid,qs,(L.filter (keepQ kind)).map QL.row,zs,by rw [List.length_map],by rw [h2,List.length_map],h3,hq2⟩⟩
  ·rw [List.map_cons,hq1]
   exact List.Sublist.cons_cons _ (flat_sub L)
structure Gu where
 i:Nat
 s:Store
def c_impl_SheetTrim:C:=(.seq (.ops [⟨some 1,none,.box (.t 0)⟩,⟨some 2,none,.new [.nils]⟩]) (.seq (.seq (.ops [⟨some 6,none,.load (some 1) (.t 1)⟩,⟨some 7,none,.call (.c (.fn (.func 12) [])) [.t 6]⟩,⟨some 8,none,.un .not (.t 7)⟩]) (.cond (.t 8) (.seq (.ops [⟨some 9,none,.build [.nils] []⟩,⟨none,none,.store 1 (.t 2) (.t 9)⟩]) .ret) .skip)) (.seq (.ops [⟨some 10,none,.load (some 1) (.t 1)⟩,⟨some 11,none,.call (.c (.fn (.func 25) [])) [.t 10]⟩,⟨some 3,none,.new [.nils]⟩,⟨none,none,.store 1 (.t 3) (.t 11)⟩]) (.seq (.seq (.ops [⟨some 12,none,.fieldAddr 0 (.t 3)⟩,⟨some 13,none,.load none (.t 12)⟩,⟨some 14,none,.len false (.t 13)⟩,⟨some 15,none,.mv (.c (.t (.int .i64 0)))⟩]) (.block 0 (.loop (.seq (.ops [⟨some 16,none,.bin .lss (.t 15) (.t 14)⟩]) (.seq (.cond (.t 16) .skip (.exit 0)) (.seq (.block 1 (.seq (.ops [⟨some 17,none,.mv (.t 15)⟩,⟨some 4,none,.mv (.t 17)⟩]) (.seq (.ops [⟨some 18,none,.fieldAddr 0 (.t 3)⟩,⟨some 19,none,.load none (.t 18)⟩,⟨some 20,none,.mv (.t 4)⟩,⟨some 21,none,.indexAddr 3 (.t 19) (.t 20)⟩,⟨some 5,none,.new [.nilp]⟩,⟨none,none,.store 1 (.t 5) (.t 21)⟩]) (.drawn [.mk 0 false ⟨some 22,none,.load none (.t 5)⟩ [],.mk 1 false ⟨some 23,none,.load none (.t 5)⟩ [],.mk 2 false ⟨some 24,none,.nilCheck (.t 23)⟩ [],.mk 3 false ⟨some 25,none,.fieldAddr 2 (.t 24)⟩ [],.mk 4 false ⟨some 26,none,.load none (.t 25)⟩ [],.mk 5 false ⟨some 27,none,.fn 29 [.t 5]⟩ [],.mk 6 true ⟨some 28,none,.call (.c (.fn (.func 28) [])) [.t 26,.t 27]⟩ [⟨some 22,none,.load none (.t 5)⟩],.mk 7 false ⟨some 29,none,.nilCheck (.t 22)⟩ [],.mk 8 false ⟨some 30,none,.fieldAddr 2 (.t 29)⟩ [],.mk 9 false ⟨none,none,.store 1 (.t 30) (.t 28)⟩ []])))) (.ops [⟨some 31,none,.bin .add (.t 15) (.c (.t (.int .i64 1)))⟩,⟨some 15,none,.mv (.t 31)⟩]))))))) (.seq (.ops [⟨some 32,none,.load (some 1) (.t 3)⟩,⟨none,none,.store 1 (.t 2) (.t 32)⟩]) .ret)))))
theorem k_impl_SheetTrim:comp Tryd.prog 33 (Tryd.f7.body.getD .skip)=some c_impl_SheetTrim:=by kernel_rfl
set_option maxHeartbeats 16000000 in
set_option maxRecDepth 20000 in
theorem impl_SheetTrimC (s:Sheet) (hs:s.Ok) (σ:Store):ACalls Tryd.prog 7 [.agg s.vs] σ (ToLC (trimS s).ts σ):=by
 refine acalls_of Tryd.func7 (by decide +kernel) (code:=Tryd.f7.body.getD .skip) (n:=33) (c:=c_impl_SheetTrim) (rs:=[(.cell 2 (some 1))]) rfl rfl k_impl_SheetTrim (by kernel_rfl) (by simp) (fun hσ=>?_)
 simp -implicitDefEqProofs only [c_impl_SheetTrim,Sheet.vs,zZ,zA,zB,zC,zD,zE,zG,zH,zI,zJ,zK,if_true,if_false,reduceCtorEq,zW,zX,zY,za,zb]
 have hvs:=impl_SheetValid s hs
 simp only [Sheet.vs] at hvs
 refine call_pure (hvs _) ?_
 rcases hv:sheetR s with _ | _
 ·simp -implicitDefEqProofs only [cond_t,cond_f,Bool.not_false,zZ,zA,zB,zC,zD,zE,zG,zH,zI,zJ,zK,if_true,if_false,reduceCtorEq,zW,zX,zY,za,zb]
  refine fin_keep (by simp) ⟨_,_,[],rfl,rfl,?_,Wi.nil⟩
  have:(trimS s).ts=[.lst 3 []]:=by rw [trimS,hv]; rfl
  rw [this]
  simp only [OwnCL,OwnC]
  exact ⟨_,_,[],[],rfl,rfl,⟨by omega,.inl ⟨trivial,rfl,.inl rfl⟩⟩,rfl,rfl⟩
 obtain ⟨h60,hbl⟩:=sheet_blocks2 hv
 have hts:(trimS s).ts=[.lst 3 ((s.Blocks.map trimB).map SheetBlock.ts)]:=by rw [trimS,hv]; rfl
 simp -implicitDefEqProofs only [cond_t,cond_f,Bool.not_true,zZ,zA,zB,zC,zD,zE,zG,zH,zI,zJ,zK,if_true,if_false,reduceCtorEq,zW,zX,zY,za,zb]
 obtain ⟨bs,hbsd⟩:∃ bs,bs=s.Blocks:=⟨_,rfl⟩
 have hbs:=hs.Blocks
 rw [← hbsd] at hbs hts hbl h60 ⊢
 refine call_newL (impl_clone_sheet bs hbs _) ?_
 intro us s0 is0 hl0 hk0 ho0 hw0
 simp only [OwnL] at ho0
 obtain ⟨v0,_,is1,_,rfl,rfl,hf0,rfl,rfl⟩:=ho0
 rw [List.append_nil] at hw0
 simp only [zt,zj,zk] at hl0 hw0
 have on0:=hf0.one
 have e2:s0[σ.length+1]?=some (.box [.nils]):=hk0.box (by simp)
 have K0:Kp σ s0:=fun x hx=>by rw [hk0 x (by simp; omega),List.getElem?_append_left hx]
 simp -implicitDefEqProofs only [e2,on0,one_cells on0,zZ,zA,zB,zC,zD,zE,zG,zH,zI,zJ,zK,if_true,if_false,reduceCtorEq,zW,zX,zY,za,zb]
 obtain ⟨X,hX⟩:∃ X,X=s0.length:=⟨_,rfl⟩
 obtain ⟨B,hB⟩:∃ B,B=s0++[Go.Ab.Obj.box [v0]]:=⟨_,rfl⟩
 have hBl:B.length=X+1:=by rw [hB,hX]; simp
 have hBX:B[X]?=some (.box [v0]):=by rw [hB,hX]; simp
 have hBf:Own B (tSheetBlockS bs) v0 is1:=by rw [hB]; exact (Kp.app s0 _).own hf0
 have hBk:Kp σ B:=by rw [hB]; exact kp_app2 K0
 have hB2:B[σ.length+1]?=some (.box [.nils]):=by rw [hB,List.getElem?_append_left (by omega)]; exact e2
 have hlv:=own_len2 hf0
 simp only [zH,zh] at hlv
 rw [← hB,← hX]
 simp -implicitDefEqProofs only [hBX,hlv,zZ,zA,zB,zC,zD,zE,zG,zH,zI,zJ,zK,if_true,if_false,reduceCtorEq,zW,zX,zY,za,zb]
 refine loop_g [15,2,3,14] [2,3,14] (fun g:Gu=>[(15,.t (.int .i64 (g.i:Nat)))]) Gu.s (fun g=>g.i≤bs.length∧Kp σ g.s∧X+1≤g.s.length∧TI (σ.length+2) g.s bs g.i v0∧g.s[X]?=some (.box [v0])∧g.s[σ.length+1]?=some (.box [.nils])) (fun g=>bs.length - g.i) ⟨0,B⟩ (by omega) ⟨Nat.zero_le _,hBk,by first | omega | (simp only; omega),TI.of hBf (hw0.mono (by omega) (by simp only; omega)),hBX,hB2⟩ rfl rfl ?_
 rintro ⟨i,s1⟩ ⟨hi,hkp,hle,hti,eX,e2'⟩
 simp only at hi hkp hle hti eX e2'
 simp -implicitDefEqProofs only [keep,on0,zZ,zA,zB,zC,zD,zE,zG,zH,zI,zJ,zK,if_true,if_false,reduceCtorEq,zW,zX,zY,za,zb]
 refine cond_split (fun h1=>?_) (fun h1=>?_)
 ·obtain ⟨b,hb,hlt⟩:=at_of h1
  have hbo:=hbs.2 b (List.mem_of_getElem? hb)
  obtain ⟨hkd,hln⟩:=hbl b (List.mem_of_getElem? hb)
  have y1:=hbo.Lines.1
  have more:=i64_succ (show i<4611686018427387904 by omega)
  obtain ⟨id,ra,rb0,ps,js,hve,htb⟩:∃ id ra rb ps js,v0=.sl id bs.length 0 bs.length∧TB (σ.length+2) s1 bs i id ra rb ps js:=by
   rcases hti with ⟨h0,_⟩ | h
   ·rw [h0] at hb; cases hb
   ·exact h
  subst hve
  have hor:=htb.or
  rw [drop_of hb,List.map_cons] at hor
  simp only [OwnR] at hor
  obtain ⟨u,rb,ji,jb,rfl,rfl,hou,hor⟩:=hor
  simp only [SheetBlock.ts,OwnL] at hou
  obtain ⟨_,_,i1,j1,rfl,rfl,hs1,_,_,i2,j2,rfl,rfl,hs2,lv,_,i3,j3,rfl,rfl,hs3,rfl,rfl⟩:=hou
  simp only [Own] at hs1 hs2
  obtain ⟨rfl,rfl⟩:=hs1
  obtain ⟨rfl,rfl⟩:=hs2
  have hs3':Own s1 (tSheetLineS b.Lines) lv i3:=hs3
  have hnd:=htb.nd
  have hlo:=htb.lo
  have hob:=htb.ob
  have hlen:=htb.lb
  have hla:=htb.la
  simp only [zr,List.append_nil] at hnd hlo hor
  have hri:(ra++[.t (.str b.Kind),.t (.str b.Name),lv]::rb)[i]?=some [.t (.str b.Kind),.t (.str b.Name),lv]:=by rw [← hla]; simp
  have ol:=hs3'.one
  have kx:((i:Nat):Int)<((bs.length:Nat):Int):=by omega
  have hidl:=(List.getElem?_eq_some_iff.1 hob).1
  obtain ⟨rs,hrs⟩:∃ rs,rs=ra++[.t (.str b.Kind),.t (.str b.Name),lv]::rb:=⟨_,rfl⟩
  rw [← hrs] at hob hlen hri
  obtain ⟨s2,hs2⟩:∃ s2:Store,s2=s1++[Go.Ab.Obj.box [.ep id bs.length i 0]]:=⟨_,rfl⟩
  have l2:s2.length=s1.length+1:=by rw [hs2]; simp
  have k12:Kp s1 s2:=by rw [hs2]; exact Kp.app _ _
  have bx2:s2[s1.length]?=some (.box [.ep id bs.length i 0]):=by rw [hs2]; simp
  have ob2:=k12.box hob
  simp -implicitDefEqProofs only [eX,hob,hlen,hri,kx,ol,ze,zV,zd,zm,yA,zh,zZ,zA,zB,zC,zD,zE,zG,zH,zI,zJ,zK,if_true,if_false,reduceCtorEq,zW,zX,zY,za,zb]
  rw [← hs2]
  simp -implicitDefEqProofs only [bx2,ob2,hlen,hri,kx,ol,ze,zV,zd,zm,yA,zh,zZ,zA,zB,zC,zD,zE,zG,zH,zI,zJ,zK,if_true,if_false,reduceCtorEq,zW,zX,zY,za,zb]
  have hn3:i3.Nodup:=by
   refine List.Nodup.sublist ?_ hnd
   exact ((List.sublist_append_left _ _).trans (List.sublist_append_right _ _)).trans (List.sublist_cons_self _ _)
  obtain ⟨L,hLx,hLq,hLa,hLn,hstr⟩:=lines_ql2 hs3' hn3
  have hLl:L.length=b.Lines.length:=by rw [← hLx,List.length_map]
  have tg:TG b.Kind s1.length id bs.length i L s2:=⟨bx2,⟨rs,b.Name,lv,ob2,hlen,hri,ol⟩,fun q hq=>k12.own (hLa q hq)⟩
  have hL:∀ q∈L,q.x.Ok∧∃ r,ruleOf b.Kind q.x.Key=some r:=fun q hq=>by
   have hm:q.x∈b.Lines:=by rw [← hLx]; exact List.mem_map.2 ⟨q,hq,rfl⟩
   obtain ⟨k,hk,hkx⟩:=List.getElem_of_mem hm
   obtain ⟨j,r,_,_,h3⟩:=line_rule (x:=q.x) hln (by rw [List.getElem?_eq_getElem hk,hkx])
   exact ⟨hbo.Lines.2 _ hm,r,h3⟩
  refine call_by (delete_lines b.Kind s1.length id bs.length i L (by omega) hlt hL lv s2 (hLq.kp k12) tg) ?_
  intro r s3 hdr
  obtain ⟨le3,keep3,or3,fr3,qs,hqs,hqsub⟩:=del_own hdr (fun q hq=>k12.own (hLa q hq)) hn3 (fun lid he=>by
   rcases hLq with ⟨_,h1 | h1⟩ | ⟨lid',h1,h2⟩
   ·rw [he] at h1; cases h1
   ·rw [he] at h1; cases h1
   ·rw [he] at h1
    simp only [V.sl.injEq] at h1
    rw [h1.1]; exact k12.box h2) hstr
  have bx3:=keep3 _ _ bx2 (by intro R h; cases h)
  have ob3:=keep3 _ _ ob2 (by intro R h; cases h)
  have hid3:=(List.getElem?_eq_some_iff.1 ob3).1
  simp -implicitDefEqProofs only [bx3,ob3,or3,ol,hlen,hri,kx,ze,zV,zd,zm,yA,zh,zZ,zA,zB,zC,zD,zE,zG,zH,zI,zJ,zK,if_true,if_false,reduceCtorEq,zW,zX,zY,za,zb]
  refine And.intro (.inr ?_) ?_
  ·refine ⟨fun _=>⟨_,_,rfl,rfl,?_⟩,trivial⟩
   simp -implicitDefEqProofs only [ev,eqK,evLoad,onV,onBox,ldV,bx3,zZ,zA,zB,zC,zD,zE,zG,zH,zI,zJ,zK,if_true,if_false,reduceCtorEq,zW,zX,zY,za,zb]
  simp -implicitDefEqProofs only [bx3,ob3,or3,one_cells or3,hlen,hri,kx,more,ze,zV,zd,zm,yA,zh,zZ,zA,zB,zC,zD,zE,zG,zH,zI,zJ,zK,if_true,if_false,reduceCtorEq,zW,zX,zY,za,zb]
  obtain ⟨s6,hs6⟩:∃ s6:Store,s6=s3.set id (.slc 3 (rs.set i [.t (.str b.Kind),.t (.str b.Name),r])):=⟨_,rfl⟩
  have l6:s6.length=s3.length:=by rw [hs6,List.length_set]
  have k6:∀ p,p≠id→s6[p]?=s3[p]?:=fun p hp=>by rw [hs6,List.getElem?_set_ne (fun e=>hp e.symm)]
  obtain ⟨hid1,hnd2⟩:=List.nodup_cons.1 hnd
  obtain ⟨hnA,hnB,hAB⟩:=List.nodup_append.1 hnd2
  obtain ⟨hn3',hnJ,h3J⟩:=List.nodup_append.1 hnB
  have hidA:id∉ps.map Prod.fst:=fun h=>hid1 (List.mem_append_left _ h)
  have hidJ:id∉jb:=fun h=>hid1 (List.mem_append_right _ (List.mem_append_right _ h))
  have hid3':id∉i3:=fun h=>hid1 (List.mem_append_right _ (List.mem_append_left _ h))
  have frA:∀ x,x<s1.length→x≠id→x∉i3→s6[x]?=s1[x]?:=fun x hx hne hnm=>by
   rw [k6 x hne,fr3 x (by omega) hnm,k12 x hx]
  have hset:rs.set i [.t (.str b.Kind),.t (.str b.Name),r]=ra++([.t (.str b.Kind),.t (.str b.Name),r]::rb):=by
   rw [hrs,List.set_append_right _ _ (by omega),hla,Nat.sub_self,List.set_cons_zero]
  have hqC:OwnC s6 (tSheetLineS (trimB b).Lines) r qs:=by
   have:OwnC s6 (tSheetLineS (trimL b.Kind (L.map QL.x))) r qs:=hqs.frame fun p hp=>k6 p.1 fun e=>hid3' (hqsub.subset (List.mem_map.2 ⟨p,hp,e⟩))
   rw [hLx] at this
   exact this
  have htb6:TB (σ.length+2) s6 bs (i+1) id (ra++[[.t (.str b.Kind),.t (.str b.Name),r]]) rb (ps++qs) jb:=by
   refine ⟨?_,by simp [hla],?_,?_,?_,?_,?_⟩
   ·rw [hs6,List.getElem?_set_self hid3,hset]; simp
   ·rw [← hlen,hrs]; simp
   ·rw [take_of hb,List.map_append,List.map_append]
    refine ownCR_app (own_pair htb.oa fun x hx=>frA x ?_ (fun e=>hidA (e ▸ hx)) fun hm=>hAB x hx x (List.mem_append_left _ hm) rfl) (ownCR_one (blk_ownC (b:=trimB b) hqC))
    obtain ⟨p,hp,rfl⟩:=List.mem_map.1 hx
    obtain ⟨sz,rows,he⟩:=htb.oa.lt p hp
    exact (List.getElem?_eq_some_iff.1 he).1
   ·exact hor.frame fun x hx=>frA x (hor.lt x hx) (fun e=>hidJ (e ▸ hx)) fun hm=>h3J x hm x hx rfl
   ·refine List.Nodup.sublist ?_ hnd
    rw [List.map_append,List.append_assoc]
    exact List.Sublist.cons_cons _ (List.Sublist.append (List.Sublist.refl _) (List.Sublist.append hqsub (List.Sublist.refl _)))
   ·intro x hx
    refine hlo x ?_
    rw [List.map_append,List.append_assoc] at hx
    rcases List.mem_cons.1 hx with rfl | hx
    ·simp
    ·rcases List.mem_append.1 hx with hx | hx
     ·exact List.mem_cons_of_mem _ (List.mem_append_left _ hx)
     ·rcases List.mem_append.1 hx with hx | hx
      ·exact List.mem_cons_of_mem _ (List.mem_append_right _ (List.mem_append_left _ (hqsub.subset hx)))
      ·exact List.mem_cons_of_mem _ (List.mem_append_right _ (List.mem_append_right _ hx))
  have nbx:∀ p c,s1[p]?=some (Go.Ab.Obj.box c)→s6[p]?=some (Go.Ab.Obj.box c):=fun p c hp=>by
   rw [k6 p (fun e=>by rw [e,hob] at hp; cases hp)]
   exact keep3 p _ (k12.box hp) (by intro R h; cases h)
  refine lk_g ⟨i+1,s6⟩ (by simp only; omega) ⟨by simp only; omega,fun p hp=>?_,by simp only; omega,.inr ⟨id,_,_,_,_,rfl,htb6⟩,nbx _ _ eX,nbx _ _ e2'⟩ (by first | omega | (rw [← hs6]; omega) | (simp only [zl]; omega)) (by rw [hs6]) rfl
  simp only
  have hidN:=hlo id (by simp)
  rw [frA p (by omega) (by omega) fun hm=>by
   have:=hlo p (List.mem_cons_of_mem _ (List.mem_append_right _ (List.mem_append_left _ hm)))
   omega]
  exact hkp p hp
 ·have hii:=end_of h1 hi
  rw [hii] at hti
  have e2t:∀ o:Go.Ab.Obj,(s1.set (σ.length+1) o)[σ.length+1]?=some o:=fun o=>List.getElem?_set_self (by omega)
  simp -implicitDefEqProofs only [eX,e2',e2t,on0,one_cells on0,zZ,zA,zB,zC,zD,zE,zG,zH,zI,zJ,zK,if_true,if_false,reduceCtorEq,zW,zX,zY,za,zb]
  have hlen1:σ.length≤(s1.set (σ.length+1) (.box [v0])).length:=by rw [List.length_set]; omega
  rcases hti with ⟨h0,h1⟩ | ⟨id,ra,rb,ps,js,rfl,htb⟩
  ·refine fin_keep hlen1 ⟨[v0],_,[],rfl,kp_split (hkp.set (by omega)) hlen1,?_,Wi.nil⟩
   rw [hts,h0]
   simp only [OwnCL,OwnC,zx]
   exact ⟨v0,[],[],[],rfl,rfl,⟨by omega,.inl ⟨trivial,rfl,h1⟩⟩,rfl,rfl⟩
  ·have hne:∀ x∈id::(ps.map Prod.fst++js),σ.length+1≠x:=fun x hx e=>by
    have:=htb.lo x hx
    omega
   have hd:=htb.done
   have hd2:OwnC (s1.set (σ.length+1) (.box [.sl id bs.length 0 bs.length])) (tSheetBlockS (bs.map trimB)) (.sl id bs.length 0 bs.length) ((id,bs.length)::ps):=hd.frame fun p hp=>by
    refine List.getElem?_set_ne (hne p.1 ?_)
    rcases List.mem_cons.1 hp with rfl | hp
    ·simp
    ·exact List.mem_cons_of_mem _ (List.mem_append_left _ (List.mem_map.2 ⟨p,hp,rfl⟩))
   refine fin_keep hlen1 ⟨_,_,(id,bs.length)::ps,rfl,kp_split (hkp.set (by omega)) hlen1,?_,?_⟩
   ·rw [hts]
    simp only [OwnCL]
    exact ⟨_,[],_,[],rfl,by simp,hd2,rfl,rfl⟩
   ·refine ⟨?_,fun x hx=>⟨?_,?_⟩⟩
    ·refine List.Nodup.sublist ?_ htb.nd
     rw [List.map_cons]
     exact List.Sublist.cons_cons _ (List.sublist_append_left _ _)
    ·have:x∈id::(ps.map Prod.fst++js):=by
      rw [List.map_cons] at hx
      rcases List.mem_cons.1 hx with rfl | hx
      ·simp
      ·exact List.mem_cons_of_mem _ (List.mem_append_left _ hx)
     have:=htb.lo x this
     omega
    ·obtain ⟨p,hp,rfl⟩:=List.mem_map.1 hx
     obtain ⟨sz,rows,he⟩:=hd2.lt p hp
     exact (List.getElem?_eq_some_iff.1 he).1
end Go.Proofs.YtnnnemgbgilfaaaDoor.W
end
section
open Go Go.Ab
set_option maxHeartbeats 2000000
namespace Go.Proofs.YtnnnemgbgilfaaaDoor.W
def resT_SheetTrim (s:Sheet):List T:=(trimS s).ts
theorem implO_SheetTrim (s:Sheet) (hs:s.Ok) (σ:Store):ACalls Tryd.prog 7 [.agg s.vs] σ (ToLR (resT_SheetTrim s) σ):=acalls_cut (impl_SheetTrimC s hs σ)
end Go.Proofs.YtnnnemgbgilfaaaDoor.W
end
