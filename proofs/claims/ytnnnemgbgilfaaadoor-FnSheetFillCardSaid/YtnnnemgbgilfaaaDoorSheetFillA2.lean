/- Copies of lines and sheets. Conditions: none. -/
/- The lines of a key. Conditions: none. -/
/- Copies of sheets. Conditions: none. -/
/- Lines and sheets of one's own. Conditions: none. -/
/- A line is put in its place. Conditions: none. -/
import Derived.Test.YtnnnemgbgilfaaaDoorSheetValid
import Derived.Test.YtnnnemgbgilfaaaDoorAb4
import Derived.Test.YtnnnemgbgilfaaaDoorAb5
set_option linter.unusedSimpArgs false
set_option linter.unusedVariables false
set_option linter.defProp false
open Bool renaming and_eq_true → yB
open Go.Ab renaming eget → zC, env0 → zD, isNilP → zI, isNilS → zJ, lenSl → zH, lenStr → zG, nat_nn → zV, opv → zA, opvs → zB, putAt → zK, setD → zE
open List renaming getElem?_map → zm, length_append → zt, length_cons → zj, length_map → zh, length_nil → zk, length_set → zl, map_cons → zu, map_nil → zx, take_succ_cons → z0
open Nat renaming reduceAdd → zb, reduceEqDiff → zX, reduceLeDiff → zW, reduceMul → za, reduceSub → zY, zero_add → ze, zero_le → zd
open Option renaming map_some → yA
section
open Go Go.Ab
set_option maxHeartbeats 2000000
namespace Go.Proofs.YtnnnemgbgilfaaaDoor.W
theorem lines_own {s:Store} {x:SheetLine} {v:V} {js:List Nat} (h:Own s (tStrs x.Words) v js):OwnL s x.ts [.t (.str x.Key),v] js:=by
 simp only [SheetLine.ts,OwnL]
 exact ⟨_,_,[],js,rfl,rfl,own_sc rfl,_,_,js,[],rfl,by simp,h,rfl,rfl⟩
def c_impl_cloneLines:C:=(.seq (.ops [⟨some 2,none,.mv (.c .nils)⟩]) (.seq (.ops [⟨some 3,none,.mv (.c .nils)⟩]) (.seq (.seq (.ops [⟨some 6,none,.mv (.t 0)⟩,⟨some 7,none,.len false (.t 6)⟩,⟨some 8,none,.mv (.c (.t (.int .i64 0)))⟩]) (.block 0 (.loop (.seq (.ops [⟨some 9,none,.bin .lss (.t 8) (.t 7)⟩]) (.seq (.cond (.t 9) .skip (.exit 0)) (.seq (.block 1 (.seq (.ops [⟨some 10,none,.indexAddr 2 (.t 6) (.t 8)⟩,⟨some 11,none,.load (some 2) (.t 10)⟩,⟨some 5,none,.new [.t (.str []),.nils]⟩,⟨none,none,.store 2 (.t 5) (.t 11)⟩]) (.seq (.ops [⟨some 12,none,.fieldAddr 1 (.t 5)⟩,⟨some 13,none,.load none (.t 12)⟩,⟨some 14,none,.append 1 16 (.c .nils) (.t 13)⟩,⟨some 15,none,.fieldAddr 1 (.t 5)⟩,⟨none,none,.store 1 (.t 15) (.t 14)⟩]) (.ops [⟨some 16,none,.mv (.t 3)⟩,⟨some 17,none,.load (some 2) (.t 5)⟩,⟨some 18,none,.lit none 2 1 [.t (.str []),.nils] [⟨0,.t 17⟩]⟩,⟨some 19,none,.append 2 40 (.t 16) (.t 18)⟩,⟨some 3,none,.mv (.t 19)⟩])))) (.ops [⟨some 20,none,.bin .add (.t 8) (.c (.t (.int .i64 1)))⟩,⟨some 8,none,.mv (.t 20)⟩]))))))) (.seq (.ops [⟨some 21,none,.mv (.t 3)⟩,⟨some 2,none,.mv (.t 21)⟩]) .ret))))
theorem k_impl_cloneLines:comp Tryd.prog 22 (Tryd.f45.body.getD .skip)=some c_impl_cloneLines:=by kernel_rfl
set_option maxHeartbeats 8000000 in
theorem impl_cloneLines (ls:List SheetLine) (hls:SheetLine.OkS ls) (σ:Store):ACalls Tryd.prog 45 [.t (tSheetLineS ls)] σ (ToR (tSheetLineS ls) σ):=by
 refine acalls_of Tryd.func45 (by decide +kernel) (code:=Tryd.f45.body.getD .skip) (n:=22) (c:=c_impl_cloneLines) (rs:=[(.tmp 2)]) rfl rfl k_impl_cloneLines (by kernel_rfl) (by simp) (fun hσ=>?_)
 have y1:=hls.1
 simp -implicitDefEqProofs only [c_impl_cloneLines,zh,zZ,zA,zB,zC,zD,zE,zG,zH,zI,zJ,zK,if_true,if_false,reduceCtorEq,zW,zX,zY,za,zb]
 refine loop_g [3,8,6,7] [6,7] (fun g:Ga=>[(3,g.v),(8,.t (.int .i64 (g.k:Nat)))]) Ga.s (OI σ 2 (ls.map SheetLine.ts)) (fun g=>ls.length - g.k) ⟨0,.nils,σ,[]⟩ (by simp) (OI.nil (by omega)) rfl rfl ?_
 rintro ⟨k,v,s,is⟩ ⟨hk,hl,hkp,ho,hv,hw⟩
 simp only [zh] at hk hl hkp ho hv hw
 have hone:=ho.one
 simp -implicitDefEqProofs only [keep,zh,zZ,zA,zB,zC,zD,zE,zG,zH,zI,zJ,zK,if_true,if_false,reduceCtorEq,zW,zX,zY,za,zb]
 refine cond_split (fun h1=>?_) (fun h1=>?_)
 ·obtain ⟨x,hx,hlt⟩:=at_of h1
  have hx':(ls.map SheetLine.ts)[k]?=some x.ts:=by rw [List.getElem?_map,hx]; rfl
  have hok:=(hls.2 x (List.mem_of_getElem? hx)).Words
  have more:=i64_succ (show k<4611686018427387904 by omega)
  have c1:0<1:=by omega
  have b5:x.Words.length * 16≤maxBy:=by have:=hok.1; simp only [maxBy]; omega
  have b6:x.Words.length≤9223372036854775807:=by have:=hok.1; omega
  simp -implicitDefEqProofs only [hx,zV,zd,zm,yA,zh,SheetLine.ts,SheetLine.vs,more,c1,b5,b6,zZ,zA,zB,zC,zD,zE,zG,zH,zI,zJ,zK,if_true,if_false,reduceCtorEq,zW,zX,zY,za,zb]
  refine lit_rows ?_
  have hrow:∀ s':Store,rowsOf s' 2 (.rows 2 [[V.t (.str x.Key),V.sl (s.length+1) x.Words.length 0 x.Words.length]])=some [[V.t (.str x.Key),V.sl (s.length+1) x.Words.length 0 x.Words.length]]:=fun s'=>rowsOf_rows rfl
  simp -implicitDefEqProofs only [hrow,zZ,zA,zB,zC,zD,zE,zG,zH,zI,zJ,zK,if_true,if_false,reduceCtorEq,zW,zX,zY,za,zb]
  refine app_own ((Kp.app s _).own ho) hv (hw.mono (Nat.le_refl _) (by simp)) (r:=x.ts) (js:=[s.length+1]) (lines_own (own_strs ?_ rfl)) ((wi_one _).mono (by omega) (by simp)) (fun i hi=>by have:=hw.2 i hi; simp; omega) (Nat.le_trans hl (by simp)) (by simp only [maxBy,List.length_take,zh]; omega) (by simp only [List.length_take,zh]; omega) ?_
  ·rw [List.getElem?_append_right (by omega),Nat.add_sub_cancel_left]; rfl
  rintro v' s' is' hl' kb ho' hv' hw'
  simp -implicitDefEqProofs only [more,zZ,zA,zB,zC,zD,zE,zG,zH,zI,zJ,zK,if_true,if_false,reduceCtorEq,zW,zX,zY,za,zb]
  refine lk_g ⟨k+1,v',s',is'⟩ (by simp only; omega) ?_ (by simp only [zt,zj] at hl hl' ⊢; omega) rfl rfl
  exact OI.next (kp_app2 hkp) (by simp only [zt,zj] at hl ⊢; omega) hx' kb hw hl' ho' hv' hw'
 ·have hkk:=end_of h1 (by simpa using hk)
  rw [hkk,List.take_of_length_le (by simp)] at ho
  simp -implicitDefEqProofs only [zZ,zA,zB,zC,zD,zE,zG,zH,zI,zJ,zK,if_true,if_false,reduceCtorEq,zW,zX,zY,za,zb]
  exact fin_keep hl ⟨_,is,kp_split hkp hl,ho,hw⟩
def c_spec_l39Lines:C:=(.seq (.ops [⟨some 2,none,.mv (.c .nils)⟩]) (.seq (.ops [⟨some 5,none,.lit none 2 0 [.t (.str []),.nils] []⟩,⟨some 3,none,.mv (.t 5)⟩]) (.seq (.seq (.ops [⟨some 4,none,.mv (.c (.t (.int .i64 0)))⟩]) (.block 0 (.loop (.seq (.seq (.ops [⟨some 6,none,.mv (.t 4)⟩,⟨some 7,none,.mv (.t 0)⟩,⟨some 8,none,.len false (.t 7)⟩,⟨some 9,none,.bin .lss (.t 6) (.t 8)⟩]) (.cond (.t 9) .skip (.exit 0))) (.seq (.block 1 (.drawn [.mk 0 false ⟨some 12,none,.mv (.t 3)⟩ [],.mk 1 false ⟨some 13,none,.mv (.t 0)⟩ [],.mk 2 false ⟨some 14,none,.mv (.t 4)⟩ [],.mk 3 false ⟨some 15,none,.indexAddr 2 (.t 13) (.t 14)⟩ [],.mk 4 false ⟨some 16,none,.fieldAddr 0 (.t 15)⟩ [],.mk 5 false ⟨some 17,none,.load none (.t 16)⟩ [],.mk 6 false ⟨some 18,none,.lit (some false) 1 0 [.t (.str [])] []⟩ [],.mk 7 false ⟨some 19,none,.mv (.t 0)⟩ [],.mk 8 false ⟨some 20,none,.mv (.t 4)⟩ [],.mk 9 false ⟨some 21,none,.indexAddr 2 (.t 19) (.t 20)⟩ [],.mk 10 false ⟨some 22,none,.fieldAddr 1 (.t 21)⟩ [],.mk 11 false ⟨some 23,none,.load none (.t 22)⟩ [],.mk 12 true ⟨some 24,none,.append 1 16 (.t 18) (.t 23)⟩ [⟨some 15,none,.indexAddr 2 (.t 13) (.t 14)⟩,⟨some 17,none,.load none (.t 16)⟩],.mk 13 false ⟨some 25,none,.build [.t (.str []),.nils] [⟨0,⟨1,.t 17⟩⟩,⟨1,⟨1,.t 24⟩⟩]⟩ [],.mk 14 false ⟨some 26,none,.lit (some false) 2 1 [.t (.str []),.nils] [⟨0,.t 25⟩]⟩ [],.mk 15 false ⟨some 27,none,.append 2 40 (.t 12) (.t 26)⟩ [],.mk 16 true ⟨some 3,none,.mv (.t 27)⟩ []])) (.ops [⟨some 10,none,.mv (.t 4)⟩,⟨some 11,none,.bin .add (.t 10) (.c (.t (.int .i64 1)))⟩,⟨some 4,none,.mv (.t 11)⟩])))))) (.seq (.ops [⟨some 28,none,.mv (.t 3)⟩,⟨some 2,none,.mv (.t 28)⟩]) .ret))))
theorem k_spec_l39Lines:comp Tryd.prog 29 (Tryd.f63.body.getD .skip)=some c_spec_l39Lines:=by kernel_rfl
set_option maxHeartbeats 8000000 in
theorem spec_l39LinesO (ls:List SheetLine) (hls:SheetLine.OkS ls) (σ:Store):ACalls Tryd.prog 63 [.t (tSheetLineS ls)] σ (ToR (tSheetLineS ls) σ):=by
 refine acalls_of Tryd.func63 (by decide +kernel) (code:=Tryd.f63.body.getD .skip) (n:=29) (c:=c_spec_l39Lines) (rs:=[(.tmp 2)]) rfl rfl k_spec_l39Lines (by kernel_rfl) (by simp) (fun hσ=>?_)
 have y1:=hls.1
 have c2:0<2:=by omega
 simp -implicitDefEqProofs only [c_spec_l39Lines,zh,c2,zZ,zA,zB,zC,zD,zE,zG,zH,zI,zJ,zK,if_true,if_false,reduceCtorEq,zW,zX,zY,za,zb]
 refine lit_own ?_
 simp -implicitDefEqProofs only [zh,zZ,zA,zB,zC,zD,zE,zG,zH,zI,zJ,zK,if_true,if_false,reduceCtorEq,zW,zX,zY,za,zb]
 refine loop_g [3,4,0] [0] (fun g:Ga=>[(3,g.v),(4,.t (.int .i64 (g.k:Nat)))]) Ga.s (OI σ 2 (ls.map SheetLine.ts)) (fun g=>ls.length - g.k) ⟨0,_,_,_⟩ (by simp) (OI.lit' (by omega) rfl rfl) rfl rfl ?_
 rintro ⟨k,v,s,is⟩ ⟨hk,hl,hkp,ho,hv,hw⟩
 simp only [zh] at hk hl hkp ho hv hw
 have hone:=ho.one
 simp -implicitDefEqProofs only [keep,zh,zZ,zA,zB,zC,zD,zE,zG,zH,zI,zJ,zK,if_true,if_false,reduceCtorEq,zW,zX,zY,za,zb]
 refine cond_split (fun h1=>?_) (fun h1=>?_)
 ·obtain ⟨x,hx,hlt⟩:=at_of h1
  have hx':(ls.map SheetLine.ts)[k]?=some x.ts:=by rw [List.getElem?_map,hx]; rfl
  have hok:=(hls.2 x (List.mem_of_getElem? hx)).Words
  have more:=i64_succ (show k<4611686018427387904 by omega)
  have c1:0<1:=by omega
  have b5:x.Words.length * 16≤maxBy:=by have:=hok.1; simp only [maxBy]; omega
  have b6:x.Words.length≤9223372036854775807:=by have:=hok.1; omega
  have hrow:∀ (s':Store) (u:V),Go.Ab.one u=true→rowsOf s' 2 (.rows 2 [[V.t (.str x.Key),u]])=some [[V.t (.str x.Key),u]]:=fun s' u h=>rowsOf_rows (by simp only [List.all_cons,List.all_nil,h,Bool.and_true]; rfl)
  have hrow1:∀ (s':Store) (m:Nat),rowsOf s' 2 (.rows 2 [[V.t (.str x.Key),V.sl s.length m 0 m]])=some [[V.t (.str x.Key),V.sl s.length m 0 m]]:=fun s' m=>hrow s' _ rfl
  have hrow2:∀ (s':Store),rowsOf s' 2 (.rows 2 [[V.t (.str x.Key),V.rows 1 []]])=some [[V.t (.str x.Key),V.rows 1 []]]:=fun s'=>hrow s' _ rfl
  simp -implicitDefEqProofs only [hx,zV,zd,zm,yA,zh,SheetLine.ts,SheetLine.vs,more,c1,c2,b5,b6,hone,zZ,zA,zB,zC,zD,zE,zG,zH,zI,zJ,zK,if_true,if_false,reduceCtorEq,zW,zX,zY,za,zb]
  refine ⟨fun he=>?_,fun he=>?_⟩
  ·have hw0:x.Words=[]:=by simpa using he
   have pre0:preσ s s:=⟨[],by simp⟩
   simp -implicitDefEqProofs only [hrow1,hrow2,c1,c2,pre0,zZ,zA,zB,zC,zD,zE,zG,zH,zI,zJ,zK,if_true,if_false,reduceCtorEq,zW,zX,zY,za,zb]
   refine app_own ho hv hw (r:=x.ts) (js:=[]) (lines_own (by rw [hw0]; simp [Own])) Wi.nil (fun i hi=>by simp) hl (by simp only [maxBy,List.length_take,zh]; omega) (by simp only [List.length_take,zh]; omega) ?_
   rintro v' s' is' hl' kb ho' hv' hw'
   try simp -implicitDefEqProofs only [more,zZ,zA,zB,zC,zD,zE,zG,zH,zI,zJ,zK,if_true,if_false,reduceCtorEq,zW,zX,zY,za,zb]
   refine lk_g ⟨k+1,v',s',is'⟩ (by simp only; omega) ?_ (by omega) rfl rfl
   exact OI.next hkp hl hx' kb hw hl' ho' hv' hw'
  ·have pre1:∀ o,preσ s (s++[o]):=fun o=>⟨_,rfl⟩
   simp -implicitDefEqProofs only [hrow1,hrow2,c1,c2,pre1,zh,zZ,zA,zB,zC,zD,zE,zG,zH,zI,zJ,zK,if_true,if_false,reduceCtorEq,zW,zX,zY,za,zb]
   refine app_own ((Kp.app s _).own ho) hv (hw.mono (Nat.le_refl _) (by simp)) (r:=x.ts) (js:=[s.length]) (lines_own (own_strs ?_ rfl)) ((wi_one _).mono (by omega) (by simp)) (fun i hi=>by have:=hw.2 i hi; simp; omega) (Nat.le_trans hl (by simp)) (by simp only [maxBy,List.length_take,zh]; omega) (by simp only [List.length_take,zh]; omega) ?_
   ·rw [List.getElem?_append_right (by omega),Nat.sub_self]; rfl
   rintro v' s' is' hl' kb ho' hv' hw'
   try simp -implicitDefEqProofs only [more,zZ,zA,zB,zC,zD,zE,zG,zH,zI,zJ,zK,if_true,if_false,reduceCtorEq,zW,zX,zY,za,zb]
   refine lk_g ⟨k+1,v',s',is'⟩ (by simp only; omega) ?_ (by simp only [zt,zj,zk] at hl hl' ⊢; omega) rfl rfl
   exact OI.next (kp_app2 hkp) (by simp only [zt,zj,zk] at hl ⊢; omega) hx' kb hw hl' ho' hv' hw'
 ·have hkk:=end_of h1 (by simpa using hk)
  rw [hkk,List.take_of_length_le (by simp)] at ho
  simp -implicitDefEqProofs only [zZ,zA,zB,zC,zD,zE,zG,zH,zI,zJ,zK,if_true,if_false,reduceCtorEq,zW,zX,zY,za,zb]
  exact fin_keep hl ⟨_,is,kp_split hkp hl,ho,hw⟩
end Go.Proofs.YtnnnemgbgilfaaaDoor.W
end
section
open Go Go.Ab
set_option maxHeartbeats 2000000
namespace Go.Proofs.YtnnnemgbgilfaaaDoor.W
def ofR (key:List UInt8) (ls:List SheetLine):List SheetLine:=ls.filter fun x=>x.Key == key
theorem ofR_step {key:List UInt8} {ls:List SheetLine} {k:Nat} {x:SheetLine} (h:ls[k]?=some x):ofR key (ls.take (k+1))=ofR key (ls.take k)++(if (x.Key == key)=true then [x] else []):=by
 rw [take_of h,ofR,List.filter_append,List.filter_cons,List.filter_nil]
 rfl
theorem ofR_le (key:List UInt8) (ls:List SheetLine) (k:Nat):(ofR key (ls.take k)).length≤k:=Nat.le_trans (List.length_filter_le _ _) (by simp; omega)
theorem ofR_ok {key:List UInt8} {ls:List SheetLine} (h:SheetLine.OkS ls):SheetLine.OkS (ofR key ls) :=
 ⟨Nat.le_trans (List.length_filter_le _ _) h.1,fun y hy=>h.2 y ((List.mem_filter.1 hy).1)⟩
structure Gl where
 k:Nat
 v:V
 s:Store
abbrev rowsV (ls:List SheetLine):List (List V):=(ls.map SheetLine.ts).map fun r=>r.map .t
theorem rowsV_step {key:List UInt8} {ls:List SheetLine} {k:Nat} {x:SheetLine} (h:ls[k]?=some x) (hk:(x.Key == key)=true):rowsV (ofR key (ls.take (k+1)))=rowsV (ofR key (ls.take k))++[x.ts.map .t]:=by
 rw [ofR_step h,if_pos hk]; simp [rowsV]
theorem rowsV_skip {key:List UInt8} {ls:List SheetLine} {k:Nat} {x:SheetLine} (h:ls[k]?=some x) (hk:(x.Key == key)=false):rowsV (ofR key (ls.take (k+1)))=rowsV (ofR key (ls.take k)):=by
 rw [ofR_step h,if_neg (by rw [hk]; simp)]; simp
def c_impl_of:C:=(.seq (.ops [⟨some 2,none,.box (.t 0)⟩,⟨some 4,none,.mv (.c .nils)⟩]) (.seq (.ops [⟨some 5,none,.mv (.c .nils)⟩]) (.seq (.seq (.ops [⟨some 8,none,.fieldAddr 2 (.t 2)⟩,⟨some 9,none,.load none (.t 8)⟩,⟨some 10,none,.len false (.t 9)⟩,⟨some 11,none,.mv (.c (.t (.int .i64 0)))⟩]) (.block 0 (.loop (.seq (.ops [⟨some 12,none,.bin .lss (.t 11) (.t 10)⟩]) (.seq (.cond (.t 12) .skip (.exit 0)) (.seq (.block 1 (.seq (.ops [⟨some 13,none,.indexAddr 2 (.t 9) (.t 11)⟩,⟨some 14,none,.load (some 2) (.t 13)⟩,⟨some 7,none,.new [.t (.str []),.nils]⟩,⟨none,none,.store 2 (.t 7) (.t 14)⟩]) (.seq (.ops [⟨some 15,none,.fieldAddr 0 (.t 7)⟩,⟨some 16,none,.load none (.t 15)⟩,⟨some 17,none,.mv (.t 1)⟩,⟨some 18,none,.bin .eql (.t 16) (.t 17)⟩]) (.cond (.t 18) (.ops [⟨some 19,none,.mv (.t 5)⟩,⟨some 20,none,.load (some 2) (.t 7)⟩,⟨some 21,none,.lit none 2 1 [.t (.str []),.nils] [⟨0,.t 20⟩]⟩,⟨some 22,none,.append 2 40 (.t 19) (.t 21)⟩,⟨some 5,none,.mv (.t 22)⟩]) .skip)))) (.ops [⟨some 23,none,.bin .add (.t 11) (.c (.t (.int .i64 1)))⟩,⟨some 11,none,.mv (.t 23)⟩]))))))) (.seq (.ops [⟨some 24,none,.mv (.t 5)⟩,⟨some 4,none,.mv (.t 24)⟩]) .ret))))
theorem k_impl_of:comp Tryd.prog 25 (Tryd.f26.body.getD .skip)=some c_impl_of:=by kernel_rfl
set_option maxHeartbeats 8000000 in
theorem impl_of (b:SheetBlock) (hb:b.Ok) (key:List UInt8) (σ:Store):ACalls Tryd.prog 26 [.agg b.vs,.t (.str key)] σ fun r σ'=>r=.t (tSheetLineS (ofR key b.Lines))∧σ'=σ:=by
 refine acalls_frz1 (t:=tSheetLineS (ofR key b.Lines)) ?_
 refine acalls_of Tryd.func26 (by decide +kernel) (code:=Tryd.f26.body.getD .skip) (n:=25) (c:=c_impl_of) (rs:=[(.tmp 4)]) rfl rfl k_impl_of (by kernel_rfl) (by simp) (fun hσ=>?_)
 have y1:=hb.Lines.1
 simp -implicitDefEqProofs only [c_impl_of,SheetBlock.vs,zh,zZ,zA,zB,zC,zD,zE,zG,zH,zI,zJ,zK,if_true,if_false,reduceCtorEq,zW,zX,zY,za,zb]
 obtain ⟨ls,hls⟩:∃ ls,ls=b.Lines:=⟨_,rfl⟩
 rw [← hls] at y1 ⊢
 obtain ⟨σ1,h1s⟩:∃ σ1,σ1=σ++[.box [.t (.str b.Kind),.t (.str b.Name),.t (.lst 2 (ls.map SheetLine.ts))]]:=⟨_,rfl⟩
 rw [← h1s]
 have h1l:σ.length≤σ1.length:=by rw [h1s]; simp
 refine loop_g [5,11,1,9,10] [1,9,10] (fun g:Gl=>[(5,g.v),(11,.t (.int .i64 (g.k:Nat)))]) Gl.s (fun g=>g.k≤ls.length∧OVl σ1 2 (rowsV (ofR key (ls.take g.k))) g.v g.s) (fun g=>ls.length - g.k) ⟨0,.nils,σ1⟩ h1l ⟨Nat.zero_le _,OVl.nils⟩ rfl rfl ?_
 rintro ⟨k,v,s⟩ ⟨hk,hv⟩
 simp only at hk hv
 have hone:=hv.one
 have hsl:=hv.le
 simp -implicitDefEqProofs only [keep,zh,zZ,zA,zB,zC,zD,zE,zG,zH,zI,zJ,zK,if_true,if_false,reduceCtorEq,zW,zX,zY,za,zb]
 refine cond_split (fun h1=>?_) (fun h1=>?_)
 ·obtain ⟨x,hx,hlt⟩:=at_of h1
  have more:=i64_succ (show k<4611686018427387904 by omega)
  have c1:0<1:=by omega
  simp -implicitDefEqProofs only [hx,zV,zd,zm,yA,zh,SheetLine.ts,SheetLine.vs,more,c1,zZ,zA,zB,zC,zD,zE,zG,zH,zI,zJ,zK,if_true,if_false,reduceCtorEq,zW,zX,zY,za,zb]
  refine cond_split (fun h2=>?_) (fun h2=>?_)
  ·have hst:=rowsV_step hx h2
   simp -implicitDefEqProofs only [hx,zV,zd,zm,yA,zh,SheetLine.ts,SheetLine.vs,more,c1,hone,zZ,zA,zB,zC,zD,zE,zG,zH,zI,zJ,zK,if_true,if_false,reduceCtorEq,zW,zX,zY,za,zb]
   refine lit_rows ?_
   have hrow:∀ s':Store,rowsOf s' 2 (.rows 2 [[V.t (.str x.Key),V.t (.lst 1 (x.Words.map tStr))]])=some [[V.t (.str x.Key),V.t (.lst 1 (x.Words.map tStr))]]:=fun s'=>rowsOf_rows rfl
   simp -implicitDefEqProofs only [hrow,zZ,zA,zB,zC,zD,zE,zG,zH,zI,zJ,zK,if_true,if_false,reduceCtorEq,zW,zX,zY,za,zb]
   have hle:=ofR_le key ls k
   refine (hv.more _).app (by simp only [zh,zj,zk,maxBy]; omega) (by simp only [zh,zj,zk]; omega) fun v' s' hl' _ hv'=>?_
   simp -implicitDefEqProofs only [more,zZ,zA,zB,zC,zD,zE,zG,zH,zI,zJ,zK,if_true,if_false,reduceCtorEq,zW,zX,zY,za,zb]
   exact lk_g ⟨k+1,v',s'⟩ (by simp only; omega) ⟨by simp only; omega,by simp only; rw [hst]; exact hv'⟩ (by simp at hl'; omega) rfl rfl
  ·have hst:=rowsV_skip hx h2
   simp -implicitDefEqProofs only [hx,zV,zd,zm,yA,zh,SheetLine.ts,SheetLine.vs,more,c1,zZ,zA,zB,zC,zD,zE,zG,zH,zI,zJ,zK,if_true,if_false,reduceCtorEq,zW,zX,zY,za,zb]
   exact lk_g ⟨k+1,v,_⟩ (by simp only; omega) ⟨by simp only; omega,by simp only; rw [hst]; exact hv.more _⟩ (by simp; omega) rfl rfl
 ·have hkk:=end_of h1 hk
  rw [hkk,List.take_length] at hv
  simp -implicitDefEqProofs only [zZ,zA,zB,zC,zD,zE,zG,zH,zI,zJ,zK,if_true,if_false,reduceCtorEq,zW,zX,zY,za,zb]
  have hb2:OVl σ 2 (rowsV (ofR key ls)) v s:=hv.base (by rw [h1s]; exact Kp.app σ _) h1l
  obtain ⟨τ,hτ⟩:=hb2.split
  exact fin_keep hb2.le ⟨τ,hτ,hb2.sees (by omega)⟩
theorem line_sees (s:Store):∀ ls:List SheetLine,SeesRows s (ls.map SheetLine.ts) (rowsV ls)
 | []=>by simp [SeesRows,rowsV]
 | x::ls=>by
  simp only [zu,rowsV,SeesRows]
  refine ⟨_,_,rfl,?_,line_sees s ls⟩
  simp only [SheetLine.ts,zu,zx,SeesL]
  refine ⟨_,_,rfl,by simp only [Sees],_,_,rfl,?_,rfl⟩
  simp only [Sees]
  exact ⟨_,by simp [rowsOf],seesR_sc (tStr_flat x.Words),by omega⟩
theorem lines_seesA {s0 s:Store} {ls:List SheetLine} {v:V} (h:OVl s0 2 (rowsV ls) v s):SeesAs s [.t (tSheetLineS ls)] [v] :=
 ⟨_,_,rfl,.inl ⟨_,rfl,by simp only [Sees]; exact ⟨_,h.rowsOf,line_sees s ls,by omega⟩⟩,rfl⟩
theorem spec_l39Lines (ls:List SheetLine) (hls:SheetLine.OkS ls) (σ:Store):ACalls Tryd.prog 63 [.t (tSheetLineS ls)] σ fun r σ'=>r=.t (tSheetLineS ls)∧σ'=σ:=acalls_frzT (spec_l39LinesO ls hls σ)
end Go.Proofs.YtnnnemgbgilfaaaDoor.W
end
section
open Go Go.Ab
set_option maxHeartbeats 2000000
namespace Go.Proofs.YtnnnemgbgilfaaaDoor.W
theorem split_at {α:Type} {l:List α} {i:Nat} {x:α} (h:l[i]?=some x):l=l.take i++x::l.drop (i+1):=by
 have:=List.take_append_drop i l
 rw [drop_of h] at this
 exact this.symm
def FO (n:Nat) (s:Store) (bs:List SheetBlock) (v:V):Prop:=(bs=[]∧v=.nils)∨∃ id,n≤id∧v=.sl id bs.length 0 bs.length∧s[id]?=some (tObj 3 (bs.map SheetBlock.ts))
theorem FO.one {n:Nat} {s:Store} {bs:List SheetBlock} {v:V} (h:FO n s bs v):Go.Ab.one v=true:=by
 rcases h with ⟨_,rfl⟩ | ⟨id,_,rfl,_⟩ <;> rfl
theorem FO.len {n:Nat} {s:Store} {bs:List SheetBlock} {v:V} (h:FO n s bs v):lenSl v=some bs.length:=by
 rcases h with ⟨rfl,rfl⟩ | ⟨id,_,rfl,_⟩ <;> rfl
theorem FO.at {n:Nat} {s:Store} {bs:List SheetBlock} {v:V} (h:FO n s bs v) (hn:bs≠[]):∃ id,n≤id∧v=.sl id bs.length 0 bs.length∧s[id]?=some (.slc 3 ((bs.map SheetBlock.ts).map fun r=>r.map V.t)):=by
 rcases h with ⟨h0,_⟩ | ⟨id,h1,h2,h3⟩
 ·exact (hn h0).elim
 ·exact ⟨id,h1,h2,h3⟩
theorem FO.kp {n:Nat} {s s':Store} {bs:List SheetBlock} {v:V} (h:FO n s bs v) (k:Kp s s'):FO n s' bs v:=by
 rcases h with h | ⟨id,h1,h2,h3⟩
 ·exact .inl h
 ·exact .inr ⟨id,h1,h2,k.box h3⟩
theorem FO.set {n:Nat} {s:Store} {bs:List SheetBlock} {v:V} (h:FO n s bs v) {X:Nat} {o:Go.Ab.Obj} {c:List V} (hx:s[X]?=some (.box c)):FO n (s.set X o) bs v:=by
 rcases h with h | ⟨id,h1,h2,h3⟩
 ·exact .inl h
 ·refine .inr ⟨id,h1,h2,?_⟩
  rw [List.getElem?_set_ne (fun e=>by subst e; rw [h3] at hx; cases hx)]
  exact h3
theorem FO.mono {n m:Nat} {s:Store} {bs:List SheetBlock} {v:V} (h:FO n s bs v) (hm:m≤n):FO m s bs v:=by
 rcases h with h | ⟨id,h1,h2,h3⟩
 ·exact .inl h
 ·exact .inr ⟨id,by omega,h2,h3⟩
theorem block_row {bs:List SheetBlock} {k:Nat} {b:SheetBlock} (h:bs[k]?=some b):((bs.map SheetBlock.ts).map fun r=>r.map V.t)[k]?=some b.vs:=by
 rw [List.getElem?_map,List.getElem?_map,h]; rfl
theorem blocks_app (bs:List SheetBlock) (b:SheetBlock):(bs++[b]).map SheetBlock.ts=bs.map SheetBlock.ts++[b.ts]:=by simp
theorem tObj_app (bs:List SheetBlock) (b:SheetBlock):Go.Ab.Obj.slc 3 (((bs.map SheetBlock.ts).map fun r=>r.map V.t)++[b.vs])=tObj 3 ((bs++[b]).map SheetBlock.ts):=by
 simp only [tObj,blocks_app,List.map_append,zu,zx]; rfl
structure Gc2 where
 k:Nat
 v:V
 s:Store
def c_spec_l39Block:C:=(.seq (.ops [⟨some 1,none,.box (.t 0)⟩,⟨some 2,none,.new [.t (.str []),.t (.str []),.nils]⟩]) (.seq (.ops [⟨some 3,none,.fieldAddr 2 (.t 1)⟩,⟨some 4,none,.load none (.t 3)⟩,⟨some 5,none,.call (.c (.fn (.func 63) [])) [.t 4]⟩,⟨some 6,none,.fieldAddr 2 (.t 1)⟩,⟨none,none,.store 1 (.t 6) (.t 5)⟩]) (.seq (.ops [⟨some 7,none,.load (some 3) (.t 1)⟩,⟨none,none,.store 3 (.t 2) (.t 7)⟩]) .ret)))
theorem k_spec_l39Block:comp Tryd.prog 8 (Tryd.f60.body.getD .skip)=some c_spec_l39Block:=by kernel_rfl
theorem spec_l39Block (b:SheetBlock) (hb:b.Ok) (σ:Store):ACalls Tryd.prog 60 [.agg b.vs] σ fun r σ'=>r=.agg b.vs∧σ'=σ:=by
 refine acalls_of Tryd.func60 (by decide +kernel) (code:=Tryd.f60.body.getD .skip) (n:=8) (c:=c_spec_l39Block) (rs:=[(.cell 2 (some 3))]) rfl rfl k_spec_l39Block (by kernel_rfl) (by simp) (fun hσ=>?_)
 simp -implicitDefEqProofs only [c_spec_l39Block,SheetBlock.vs,zZ,zA,zB,zC,zD,zE,zG,zH,zI,zJ,zK,if_true,if_false,reduceCtorEq,zW,zX,zY,za,zb]
 have hl:=spec_l39Lines b.Lines hb.Lines
 simp only [tSheetLineS] at hl
 refine call_pure (hl _) ?_
 simp -implicitDefEqProofs only [zZ,zA,zB,zC,zD,zE,zG,zH,zI,zJ,zK,if_true,if_false,reduceCtorEq,zW,zX,zY,za,zb]
 exact ret_same rfl hσ rfl ⟨rfl,rfl⟩
def c_spec_l39Copy:C:=(.seq (.ops [⟨some 1,none,.box (.t 0)⟩,⟨some 2,none,.new [.nils]⟩]) (.seq (.ops [⟨some 5,none,.build [.nils] []⟩,⟨some 3,none,.new [.nils]⟩,⟨none,none,.store 1 (.t 3) (.t 5)⟩]) (.seq (.seq (.ops [⟨some 4,none,.mv (.c (.t (.int .i64 0)))⟩]) (.block 0 (.loop (.seq (.seq (.ops [⟨some 6,none,.mv (.t 4)⟩,⟨some 7,none,.fieldAddr 0 (.t 1)⟩,⟨some 8,none,.load none (.t 7)⟩,⟨some 9,none,.len false (.t 8)⟩,⟨some 10,none,.bin .lss (.t 6) (.t 9)⟩]) (.cond (.t 10) .skip (.exit 0))) (.seq (.block 1 (.drawn [.mk 0 false ⟨some 13,none,.fieldAddr 0 (.t 3)⟩ [],.mk 1 false ⟨some 14,none,.load none (.t 13)⟩ [],.mk 2 false ⟨some 15,none,.fieldAddr 0 (.t 1)⟩ [],.mk 3 false ⟨some 16,none,.load none (.t 15)⟩ [],.mk 4 false ⟨some 17,none,.mv (.t 4)⟩ [],.mk 5 false ⟨some 18,none,.indexAddr 3 (.t 16) (.t 17)⟩ [],.mk 6 false ⟨some 19,none,.load (some 3) (.t 18)⟩ [],.mk 7 true ⟨some 20,none,.call (.c (.fn (.func 60) [])) [.t 19]⟩ [⟨some 14,none,.load none (.t 13)⟩],.mk 8 false ⟨some 21,none,.lit (some false) 3 1 [.t (.str []),.t (.str []),.nils] [⟨0,.t 20⟩]⟩ [],.mk 9 false ⟨some 22,none,.append 3 56 (.t 14) (.t 21)⟩ [],.mk 10 false ⟨some 23,none,.fieldAddr 0 (.t 3)⟩ [],.mk 11 false ⟨none,none,.store 1 (.t 23) (.t 22)⟩ []])) (.ops [⟨some 11,none,.mv (.t 4)⟩,⟨some 12,none,.bin .add (.t 11) (.c (.t (.int .i64 1)))⟩,⟨some 4,none,.mv (.t 12)⟩])))))) (.seq (.ops [⟨some 24,none,.load (some 1) (.t 3)⟩,⟨none,none,.store 1 (.t 2) (.t 24)⟩]) .ret))))
theorem k_spec_l39Copy:comp Tryd.prog 25 (Tryd.f32.body.getD .skip)=some c_spec_l39Copy:=by kernel_rfl
set_option maxHeartbeats 8000000 in
theorem spec_l39CopyA (bs:List SheetBlock) (hbs:SheetBlock.OkS bs) (σ:Store):ACalls Tryd.prog 32 [.agg [.t (.lst 3 (bs.map SheetBlock.ts))]] σ fun r σ'=>∃ v,r=.agg [v]∧Kp σ σ'∧σ.length≤σ'.length∧FO σ.length σ' bs v:=by
 refine acalls_of Tryd.func32 (by decide +kernel) (code:=Tryd.f32.body.getD .skip) (n:=25) (c:=c_spec_l39Copy) (rs:=[(.cell 2 (some 1))]) rfl rfl k_spec_l39Copy (by kernel_rfl) (by simp) (fun hσ=>?_)
 have y1:=hbs.1
 simp -implicitDefEqProofs only [c_spec_l39Copy,zh,zZ,zA,zB,zC,zD,zE,zG,zH,zI,zJ,zK,if_true,if_false,reduceCtorEq,zW,zX,zY,za,zb]
 refine loop_g [4,1,2,3] [1,2,3] (fun g:Gc2=>[(4,.t (.int .i64 (g.k:Nat)))]) Gc2.s (fun g=>g.k≤bs.length∧Kp σ g.s∧σ.length+3≤g.s.length∧FO (σ.length+3) g.s (bs.take g.k) g.v∧g.s[σ.length]?=some (.box [.t (.lst 3 (bs.map SheetBlock.ts))])∧g.s[σ.length+1]?=some (.box [.nils])∧g.s[σ.length+2]?=some (.box [g.v])) (fun g=>bs.length - g.k) ⟨0,.nils,σ++[.box [.t (.lst 3 (bs.map SheetBlock.ts))],.box [.nils],.box [.nils]]⟩ (by simp) ⟨Nat.zero_le _,Kp.app _ _,by simp,.inl ⟨rfl,rfl⟩,by simp,by simp,by simp⟩ rfl rfl ?_
 rintro ⟨k,v,s⟩ ⟨hk,hkp,hle,hfo,e1,e2,e3⟩
 simp only at hk hkp hle hfo e1 e2 e3
 have hone:=hfo.one
 simp -implicitDefEqProofs only [keep,e1,zh,zZ,zA,zB,zC,zD,zE,zG,zH,zI,zJ,zK,if_true,if_false,reduceCtorEq,zW,zX,zY,za,zb]
 refine cond_split (fun h1=>?_) (fun h1=>?_)
 ·obtain ⟨x,hx,hlt⟩:=at_of h1
  have more:=i64_succ (show k<4611686018427387904 by omega)
  have hxo:=hbs.2 x (List.mem_of_getElem? hx)
  have htl:(bs.take k).length=k:=by rw [List.length_take]; omega
  have htk:bs.take (k+1)=bs.take k++[x]:=take_of hx
  have hat:True:=trivial
  have c3:0<3:=by omega
  simp -implicitDefEqProofs only [e1,e2,e3,hone,hx,hat,block_row hx,c3,zV,zd,zm,yA,zh,SheetBlock.ts,SheetBlock.vs,zZ,zA,zB,zC,zD,zE,zG,zH,zI,zJ,zK,if_true,if_false,reduceCtorEq,zW,zX,zY,za,zb]
  have hbk:=spec_l39Block x hxo
  simp only [SheetBlock.vs] at hbk
  refine call_pure (hbk _) ?_
  have hrow:∀ (s':Store),rowsOf s' 3 (.rows 3 [[.t (.str x.Kind),.t (.str x.Name),.t (.lst 2 (x.Lines.map SheetLine.ts))]])=some [[.t (.str x.Kind),.t (.str x.Name),.t (.lst 2 (x.Lines.map SheetLine.ts))]]:=fun s'=>rowsOf_rows rfl
  simp -implicitDefEqProofs only [e1,e2,e3,hone,c3,hrow,more,zZ,zA,zB,zC,zD,zE,zG,zH,zI,zJ,zK,if_true,if_false,reduceCtorEq,zW,zX,zY,za,zb]
  have e3t:∀ (t:Store) (o:Go.Ab.Obj),σ.length+2<t.length→(t.set (σ.length+2) o)[σ.length+2]?=some o:=fun t o h=>List.getElem?_set_self h
  rcases hfo with ⟨h0,rfl⟩ | ⟨id,h3,rfl,h4⟩
  ·have b1:1 * 56≤maxBy:=by decide
   have b2:1≤9223372036854775807:=by decide
   have e3x:∀ o:Go.Ab.Obj,(s++[o])[σ.length+2]?=some (.box [.nils]):=fun o=>by rw [List.getElem?_append_left (by omega)]; exact e3
   simp -implicitDefEqProofs only [e3,e3x,more,zj,zk,b1,b2,zZ,zA,zB,zC,zD,zE,zG,zH,zI,zJ,zK,if_true,if_false,reduceCtorEq,zW,zX,zY,za,zb]
   refine ⟨by omega,lk_g ⟨k+1,.sl s.length 1 0 1,(s++[Go.Ab.Obj.slc 3 [x.vs]]).set (σ.length+2) (.box [.sl s.length 1 0 1])⟩ (by simp only; omega) ⟨by simp only; omega,(kp_app2 hkp).set (by omega),by simp; omega,.inr ⟨s.length,hle,by rw [htk,h0]; rfl,?_⟩,?_,?_,?_⟩ (by simp; omega) rfl rfl⟩
   ·simp only
    rw [htk,h0,List.getElem?_set_ne (by omega),List.getElem?_append_right (by omega),Nat.sub_self]; rfl
   ·simp only
    rw [List.getElem?_set_ne (by omega),List.getElem?_append_left (by omega)]; first | exact e1 | rw [e1,hat.1]
   ·simp only
    rw [List.getElem?_set_ne (by omega),List.getElem?_append_left (by omega)]; exact e2
   ·exact List.getElem?_set_self (by simp; omega)
  ·have h4':s[id]?=some (.slc 3 (((bs.take k).map SheetBlock.ts).map fun r=>r.map V.t)):=h4
   have hidl:=(List.getElem?_eq_some_iff.1 h4').1
   have hrl:(((bs.take k).map SheetBlock.ts).map fun r=>r.map V.t).length=(bs.take k).length:=by rw [List.length_map,List.length_map]
   have b1:((bs.take k).length+1) * 56≤maxBy:=by rw [htl]; simp only [maxBy]; omega
   have b2:(bs.take k).length+1≤9223372036854775807:=by rw [htl]; omega
   have e3x:∀ o:Go.Ab.Obj,(s.set id o)[σ.length+2]?=some (.box [.sl id (bs.take k).length 0 (bs.take k).length]):=fun o=>by rw [List.getElem?_set_ne (by omega)]; exact e3
   try simp -implicitDefEqProofs only [h4',e3,e3x,hrl,more,zj,zk,b1,b2,zZ,zA,zB,zC,zD,zE,zG,zH,zI,zJ,zK,if_true,if_false,reduceCtorEq,zW,zX,zY,za,zb]
   refine ⟨by omega,by rw [htl]; omega,lk_g ⟨k+1,.sl id ((bs.take k).length+1) 0 ((bs.take k).length+1),(s.set id (Go.Ab.Obj.slc 3 ((((bs.take k).map SheetBlock.ts).map fun r=>r.map V.t)++[x.vs]))).set (σ.length+2) (.box [.sl id ((bs.take k).length+1) 0 ((bs.take k).length+1)])⟩ (by simp only; omega) ⟨by simp only; omega,(hkp.set (by omega)).set (by omega),by simp; omega,.inr ⟨id,h3,by rw [htk]; simp,?_⟩,?_,?_,?_⟩ (by simp; omega) rfl rfl⟩
   ·simp only
    rw [htk,List.getElem?_set_ne (by omega),List.getElem?_set_self hidl,tObj_app]
   ·simp only
    rw [List.getElem?_set_ne (by omega),List.getElem?_set_ne (by omega)]; first | exact e1 | rw [e1,hat.1]
   ·simp only
    rw [List.getElem?_set_ne (by omega),List.getElem?_set_ne (by omega)]; exact e2
   ·exact List.getElem?_set_self (by simp; omega)
 ·have hkk:=end_of h1 hk
  rw [hkk,List.take_length] at hfo
  have e2t:∀ o:Go.Ab.Obj,(s.set (σ.length+1) o)[σ.length+1]?=some o:=fun o=>List.getElem?_set_self (by omega)
  simp -implicitDefEqProofs only [e1,e2,e3,e2t,hone,one_cells hone,zZ,zA,zB,zC,zD,zE,zG,zH,zI,zJ,zK,if_true,if_false,reduceCtorEq,zW,zX,zY,za,zb]
  exact fin_keep (by simp; omega) ⟨v,rfl,hkp.set (by omega),by simp; omega,(hfo.set e2).mono (by omega)⟩
set_option maxHeartbeats 8000000 in
theorem spec_l39CopyB (bs:List SheetBlock) (hbs:SheetBlock.OkS bs) (u:V) (n:Nat) (σ:Store) (hu:FO n σ bs u):ACalls Tryd.prog 32 [.agg [u]] σ fun r σ'=>∃ v,r=.agg [v]∧Kp σ σ'∧σ.length≤σ'.length∧FO σ.length σ' bs v:=by
 refine acalls_of Tryd.func32 (by decide +kernel) (code:=Tryd.f32.body.getD .skip) (n:=25) (c:=c_spec_l39Copy) (rs:=[(.cell 2 (some 1))]) rfl rfl k_spec_l39Copy (by kernel_rfl) (by simp) (fun hσ=>?_)
 have y1:=hbs.1
 have hlu:=hu.len
 simp only [zH] at hlu
 have hou:=hu.one
 simp -implicitDefEqProofs only [c_spec_l39Copy,hlu,hou,one_cells hou,zh,zZ,zA,zB,zC,zD,zE,zG,zH,zI,zJ,zK,if_true,if_false,reduceCtorEq,zW,zX,zY,za,zb]
 refine loop_g [4,1,2,3] [1,2,3] (fun g:Gc2=>[(4,.t (.int .i64 (g.k:Nat)))]) Gc2.s (fun g=>g.k≤bs.length∧Kp σ g.s∧σ.length+3≤g.s.length∧FO (σ.length+3) g.s (bs.take g.k) g.v∧g.s[σ.length]?=some (.box [u])∧g.s[σ.length+1]?=some (.box [.nils])∧g.s[σ.length+2]?=some (.box [g.v])) (fun g=>bs.length - g.k) ⟨0,.nils,σ++[.box [u],.box [.nils],.box [.nils]]⟩ (by simp) ⟨Nat.zero_le _,Kp.app _ _,by simp,.inl ⟨rfl,rfl⟩,by simp,by simp,by simp⟩ rfl rfl ?_
 rintro ⟨k,v,s⟩ ⟨hk,hkp,hle,hfo,e1,e2,e3⟩
 simp only at hk hkp hle hfo e1 e2 e3
 have hone:=hfo.one
 simp -implicitDefEqProofs only [hlu,hou,one_cells hou,keep,e1,zh,zZ,zA,zB,zC,zD,zE,zG,zH,zI,zJ,zK,if_true,if_false,reduceCtorEq,zW,zX,zY,za,zb]
 refine cond_split (fun h1=>?_) (fun h1=>?_)
 ·obtain ⟨x,hx,hlt⟩:=at_of h1
  have more:=i64_succ (show k<4611686018427387904 by omega)
  have hxo:=hbs.2 x (List.mem_of_getElem? hx)
  have htl:(bs.take k).length=k:=by rw [List.length_take]; omega
  have htk:bs.take (k+1)=bs.take k++[x]:=take_of hx
  obtain ⟨idu,_,hue,huo⟩:=hu.at (by rintro rfl; simp at hx)
  have hau:=hkp.box huo
  have hrlu:((bs.map SheetBlock.ts).map fun r=>r.map V.t).length=bs.length:=by rw [List.length_map,List.length_map]
  have kx:((k:Nat):Int)<((bs.length:Nat):Int):=by omega
  have hat:=And.intro hue (And.intro hau (And.intro hrlu kx))
  have c3:0<3:=by omega
  simp -implicitDefEqProofs only [e1,e2,e3,hone,hx,hat,block_row hx,c3,zV,zd,zm,yA,zh,SheetBlock.ts,SheetBlock.vs,zZ,zA,zB,zC,zD,zE,zG,zH,zI,zJ,zK,if_true,if_false,reduceCtorEq,zW,zX,zY,za,zb]
  have hbk:=spec_l39Block x hxo
  simp only [SheetBlock.vs] at hbk
  refine call_pure (hbk _) ?_
  have hrow:∀ (s':Store),rowsOf s' 3 (.rows 3 [[.t (.str x.Kind),.t (.str x.Name),.t (.lst 2 (x.Lines.map SheetLine.ts))]])=some [[.t (.str x.Kind),.t (.str x.Name),.t (.lst 2 (x.Lines.map SheetLine.ts))]]:=fun s'=>rowsOf_rows rfl
  simp -implicitDefEqProofs only [e1,e2,e3,hone,c3,hrow,more,zZ,zA,zB,zC,zD,zE,zG,zH,zI,zJ,zK,if_true,if_false,reduceCtorEq,zW,zX,zY,za,zb]
  have e3t:∀ (t:Store) (o:Go.Ab.Obj),σ.length+2<t.length→(t.set (σ.length+2) o)[σ.length+2]?=some o:=fun t o h=>List.getElem?_set_self h
  rcases hfo with ⟨h0,rfl⟩ | ⟨id,h3,rfl,h4⟩
  ·have b1:1 * 56≤maxBy:=by decide
   have b2:1≤9223372036854775807:=by decide
   have e3x:∀ o:Go.Ab.Obj,(s++[o])[σ.length+2]?=some (.box [.nils]):=fun o=>by rw [List.getElem?_append_left (by omega)]; exact e3
   simp -implicitDefEqProofs only [e3,e3x,more,zj,zk,b1,b2,zZ,zA,zB,zC,zD,zE,zG,zH,zI,zJ,zK,if_true,if_false,reduceCtorEq,zW,zX,zY,za,zb]
   refine ⟨by omega,lk_g ⟨k+1,.sl s.length 1 0 1,(s++[Go.Ab.Obj.slc 3 [x.vs]]).set (σ.length+2) (.box [.sl s.length 1 0 1])⟩ (by simp only; omega) ⟨by simp only; omega,(kp_app2 hkp).set (by omega),by simp; omega,.inr ⟨s.length,hle,by rw [htk,h0]; rfl,?_⟩,?_,?_,?_⟩ (by simp; omega) rfl rfl⟩
   ·simp only
    rw [htk,h0,List.getElem?_set_ne (by omega),List.getElem?_append_right (by omega),Nat.sub_self]; rfl
   ·simp only
    rw [List.getElem?_set_ne (by omega),List.getElem?_append_left (by omega)]; first | exact e1 | rw [e1,hat.1]
   ·simp only
    rw [List.getElem?_set_ne (by omega),List.getElem?_append_left (by omega)]; exact e2
   ·exact List.getElem?_set_self (by simp; omega)
  ·have h4':s[id]?=some (.slc 3 (((bs.take k).map SheetBlock.ts).map fun r=>r.map V.t)):=h4
   have hidl:=(List.getElem?_eq_some_iff.1 h4').1
   have hrl:(((bs.take k).map SheetBlock.ts).map fun r=>r.map V.t).length=(bs.take k).length:=by rw [List.length_map,List.length_map]
   have b1:((bs.take k).length+1) * 56≤maxBy:=by rw [htl]; simp only [maxBy]; omega
   have b2:(bs.take k).length+1≤9223372036854775807:=by rw [htl]; omega
   have e3x:∀ o:Go.Ab.Obj,(s.set id o)[σ.length+2]?=some (.box [.sl id (bs.take k).length 0 (bs.take k).length]):=fun o=>by rw [List.getElem?_set_ne (by omega)]; exact e3
   try simp -implicitDefEqProofs only [h4',e3,e3x,hrl,more,zj,zk,b1,b2,zZ,zA,zB,zC,zD,zE,zG,zH,zI,zJ,zK,if_true,if_false,reduceCtorEq,zW,zX,zY,za,zb]
   refine ⟨by omega,by rw [htl]; omega,lk_g ⟨k+1,.sl id ((bs.take k).length+1) 0 ((bs.take k).length+1),(s.set id (Go.Ab.Obj.slc 3 ((((bs.take k).map SheetBlock.ts).map fun r=>r.map V.t)++[x.vs]))).set (σ.length+2) (.box [.sl id ((bs.take k).length+1) 0 ((bs.take k).length+1)])⟩ (by simp only; omega) ⟨by simp only; omega,(hkp.set (by omega)).set (by omega),by simp; omega,.inr ⟨id,h3,by rw [htk]; simp,?_⟩,?_,?_,?_⟩ (by simp; omega) rfl rfl⟩
   ·simp only
    rw [htk,List.getElem?_set_ne (by omega),List.getElem?_set_self hidl,tObj_app]
   ·simp only
    rw [List.getElem?_set_ne (by omega),List.getElem?_set_ne (by omega)]; first | exact e1 | rw [e1,hat.1]
   ·simp only
    rw [List.getElem?_set_ne (by omega),List.getElem?_set_ne (by omega)]; exact e2
   ·exact List.getElem?_set_self (by simp; omega)
 ·have hkk:=end_of h1 hk
  rw [hkk,List.take_length] at hfo
  have e2t:∀ o:Go.Ab.Obj,(s.set (σ.length+1) o)[σ.length+1]?=some o:=fun o=>List.getElem?_set_self (by omega)
  simp -implicitDefEqProofs only [e1,e2,e3,e2t,hone,one_cells hone,zZ,zA,zB,zC,zD,zE,zG,zH,zI,zJ,zK,if_true,if_false,reduceCtorEq,zW,zX,zY,za,zb]
  exact fin_keep (by simp; omega) ⟨v,rfl,hkp.set (by omega),by simp; omega,(hfo.set e2).mono (by omega)⟩
end Go.Proofs.YtnnnemgbgilfaaaDoor.W
end
section
open Go Go.Ab
set_option maxHeartbeats 2000000
namespace Go.Proofs.YtnnnemgbgilfaaaDoor.W
theorem own_len2 {s:Store} {n:Nat} {rows:List (List T)} {w:V} {is:List Nat} (h:Own s (.lst n rows) w is):lenSl w=some rows.length:=by
 simp only [Own] at h
 obtain ⟨_,⟨rfl,rfl,rfl | rfl⟩ | ⟨id,js,rs,rfl,rfl,_,h2⟩⟩:=h
 ·rfl
 ·rfl
 ·rw [h2.len]; rfl
structure QL where
 x:SheetLine
 w:V
 is:List Nat
def QL.row (q:QL):List V:=[.t (.str q.x.Key),q.w]
def QL.at (s:Store) (q:QL):Prop:=Own s (tStrs q.x.Words) q.w q.is
theorem ql_of {s:Store}:∀ {ls:List SheetLine} {rs:List (List V)} {js:List Nat},OwnR s (ls.map SheetLine.ts) rs js→∃ L:List QL,L.map QL.x=ls∧rs=L.map QL.row∧js=L.flatMap QL.is∧∀ q∈L,q.at s
 | [],rs,js,h=>by
  simp only [zx,OwnR] at h
  obtain ⟨rfl,rfl⟩:=h
  exact ⟨[],rfl,rfl,rfl,by simp⟩
 | x::ls,rs,js,h=>by
  simp only [zu,OwnR] at h
  obtain ⟨u,us,i,j,rfl,rfl,h1,h2⟩:=h
  obtain ⟨L,rfl,rfl,rfl,h3⟩:=ql_of h2
  simp only [SheetLine.ts,OwnL] at h1
  obtain ⟨_,_,i1,j1,rfl,rfl,hs1,_,_,i2,j2,rfl,rfl,hs2,rfl,rfl⟩:=h1
  simp only [Own] at hs1
  obtain ⟨rfl,rfl⟩:=hs1
  refine ⟨⟨x,_,i2⟩::L,rfl,rfl,by simp,fun q hq=>?_⟩
  rcases List.mem_cons.1 hq with rfl | hq
  ·exact hs2
  ·exact h3 q hq
theorem ql_own {s:Store}:∀ {L:List QL},(∀ q∈L,q.at s)→OwnR s ((L.map QL.x).map SheetLine.ts) (L.map QL.row) (L.flatMap QL.is)
 | [],_=>by simp [OwnR]
 | q::L,h=>by
  have ih:=ql_own (L:=L) fun p hp=>h p (by simp [hp])
  simp only [zu,List.flatMap_cons]
  exact OwnR.cons (lines_own (h q (by simp))) ih
theorem ql_one {s:Store} {L:List QL} (h:∀ q∈L,q.at s):∀ q∈L,Go.Ab.one q.w=true:=fun q hq=>(h q hq).one
theorem nodup_uniq {α:Type} {f:α→List Nat}:∀ {L:List α} {a b:α} {i:Nat},(L.flatMap f).Nodup→a∈L→b∈L→i∈f a→i∈f b→a=b
 | [],_,_,_,_,h,_,_,_=>by cases h
 | c::L,a,b,i,hn,ha,hb,h1,h2=>by
  rw [List.flatMap_cons] at hn
  obtain ⟨n1,n2,n3⟩:=List.nodup_append.1 hn
  rcases List.mem_cons.1 ha with e1 | ha2
  ·rcases List.mem_cons.1 hb with e2 | hb2
   ·rw [e1,e2]
   ·exact (n3 i (e1 ▸ h1) i (List.mem_flatMap.2 ⟨b,hb2,h2⟩) rfl).elim
  ·rcases List.mem_cons.1 hb with e2 | hb2
   ·exact (n3 i (e2 ▸ h2) i (List.mem_flatMap.2 ⟨a,ha2,h1⟩) rfl).elim
   ·exact nodup_uniq n2 ha2 hb2 h1 h2
theorem nodup_filter {α:Type} {f:α→List Nat} {p:α→Bool}:∀ {L:List α},(L.flatMap f).Nodup→((L.filter p).flatMap f).Nodup
 | [],_=>by simp
 | c::L,hn=>by
  rw [List.flatMap_cons] at hn
  obtain ⟨n1,n2,n3⟩:=List.nodup_append.1 hn
  have ih:=nodup_filter (p:=p) n2
  rw [List.filter_cons]
  split
  ·rw [List.flatMap_cons]
   refine List.nodup_append.2 ⟨n1,ih,fun x hx y hy=>n3 x hx y ?_⟩
   obtain ⟨q,hq,hy⟩:=List.mem_flatMap.1 hy
   exact List.mem_flatMap.2 ⟨q,(List.mem_filter.1 hq).1,hy⟩
  ·exact ih
theorem own_row {s:Store} {n i:Nat} {rows:List (List T)} {r:List T} {v:V} {is:List Nat} (h:Own s (.lst n rows) v is) (hr:rows[i]?=some r) :
  ∃ id rs u js rest,v=.sl id rows.length 0 rows.length∧s[id]?=some (.slc n rs)∧rs.length=rows.length∧rs[i]?=some u∧OwnL s r u js∧is.Perm (id::(js++rest)) ∧
   ∀ (s':Store) (r':List T) (u':List V) (js':List Nat),s'[id]?=some (.slc n (rs.set i u'))→(∀ j∈rest,s'[j]?=s[j]?)→OwnL s' r' u' js'→∃ is',Own s' (.lst n (rows.set i r')) v is'∧is'.Perm (id::(js'++rest)):=by
 have hi:=(List.getElem?_eq_some_iff.1 hr).1
 simp only [Own] at h
 obtain ⟨hp,⟨rfl,_⟩ | ⟨id,js0,rs,rfl,rfl,h1,h2⟩⟩:=h
 ·simp at hr
 have hsp:=split_at hr
 have hl:=h2.len
 rw [hsp] at h2
 obtain ⟨ra,u,rb,ja,ji,jb,rfl,rfl,hla,k1,k2,k3⟩:=OwnR.split h2
 have hla':ra.length=i:=by rw [hla,List.length_take]; omega
 refine ⟨id,_,u,ji,ja++jb,by rw [hl],h1,hl,by rw [← hla']; simp,k2,?_,fun s' r' u' js' g1 g2 g3=>⟨id::(ja++(js'++jb)),?_,?_⟩⟩
 ·refine List.Perm.cons _ ?_
  rw [← List.append_assoc,← List.append_assoc]
  exact List.Perm.append_right _ List.perm_append_comm
 ·simp only [Own]
  refine ⟨hp,.inr ⟨id,ja++(js'++jb),(ra++u::rb).set i u',rfl,by rw [List.length_set],g1,?_⟩⟩
  have e1:rows.set i r'=rows.take i++r'::rows.drop (i+1):=by
   conv=>lhs; rw [hsp]
   rw [List.set_append_right _ _ (by simp; omega),List.length_take,Nat.min_eq_left (by omega),Nat.sub_self,List.set_cons_zero]
  have e2:(ra++u::rb).set i u'=ra++u'::rb:=by
   rw [List.set_append_right _ _ (by omega),hla',Nat.sub_self,List.set_cons_zero]
  rw [e1,e2]
  exact OwnR.app (k1.frame fun j hj=>g2 j (by simp [hj])) (OwnR.cons g3 (k3.frame fun j hj=>g2 j (by simp [hj])))
 ·refine List.Perm.cons _ ?_
  rw [← List.append_assoc,← List.append_assoc]
  exact List.Perm.append_right _ List.perm_append_comm
theorem own_slc {s:Store} {t:T} {v:V} {is:List Nat} (h:Own s t v is):∀ i∈is,∃ sz rs,s[i]?=some (.slc sz rs):=fun i hi=>by
 obtain ⟨sz,rs,h1,_⟩:=h.cl.2 i hi
 exact ⟨sz,rs,h1⟩
theorem own_box {s:Store} {t:T} {v:V} {is:List Nat} {X:Nat} {c:List V} (h:Own s t v is) (hx:s[X]?=some (.box c)):X∉is:=fun hm=>by
 obtain ⟨sz,rs,h1⟩:=own_slc h X hm
 rw [h1] at hx; cases hx
theorem own_str1 {s:Store} {l:List (List UInt8)} {w:V} {is:List Nat} (h:Own s (tStrs l) w is):∀ i∈is,∃ rs,s[i]?=some (.slc 1 rs):=by
 intro i hi
 rcases own_obj h (tStr_flat l) with ⟨_,rfl,_⟩ | ⟨id,rfl,_,h3⟩
 ·cases hi
 ·obtain rfl:i=id:=by simpa using hi
  exact ⟨_,h3⟩
theorem ovl_step {s0 s s':Store} {n:Nat} {rows:List (List V)} {v:V} (h:OVl s0 n rows v s) (hk:Kp s s') (hl:s.length≤s'.length):OVl s0 n rows v s':=by
 refine ⟨Nat.le_trans h.le hl,h.kp.trans h.le hk,h.ob.imp id ?_⟩
 rintro ⟨id,h1,h2,h3⟩
 exact ⟨id,h1,h2,hk.box h3⟩
def QV (s:Store) (L:List QL) (v:V):Prop:=(L=[]∧(v=.nils∨v=.rows 2 []))∨∃ id,v=.sl id L.length 0 L.length∧s[id]?=some (.slc 2 (L.map QL.row))
theorem QV.one {s:Store} {L:List QL} {v:V} (h:QV s L v):Go.Ab.one v=true:=by
 rcases h with ⟨_,rfl | rfl⟩ | ⟨id,rfl,_⟩ <;> rfl
theorem QV.len {s:Store} {L:List QL} {v:V} (h:QV s L v):lenSl v=some L.length:=by
 rcases h with ⟨rfl,rfl | rfl⟩ | ⟨id,rfl,_⟩ <;> rfl
theorem QV.kp {s s':Store} {L:List QL} {v:V} (h:QV s L v) (k:Kp s s'):QV s' L v:=by
 rcases h with h | ⟨id,h1,h2⟩
 ·exact .inl h
 ·exact .inr ⟨id,h1,k.box h2⟩
def ofQ (key:List UInt8) (L:List QL):List QL:=L.filter fun q=>q.x.Key == key
theorem ofQ_x (key:List UInt8) (L:List QL):(ofQ key L).map QL.x=ofR key (L.map QL.x):=by
 rw [ofQ,ofR,List.filter_map]; rfl
theorem ofQ_le (key:List UInt8) (L:List QL) (k:Nat):(ofQ key (L.take k)).length≤k:=Nat.le_trans (List.length_filter_le _ _) (by simp; omega)
theorem ofQ_step {key:List UInt8} {L:List QL} {k:Nat} {x:QL} (h:L[k]?=some x) (hk:(x.x.Key == key)=true):(ofQ key (L.take (k+1))).map QL.row=(ofQ key (L.take k)).map QL.row++[x.row]:=by
 rw [take_of h,ofQ,ofQ,List.filter_append,List.filter_cons,List.filter_nil,if_pos hk]; simp
theorem ofQ_skip {key:List UInt8} {L:List QL} {k:Nat} {x:QL} (h:L[k]?=some x) (hk:(x.x.Key == key)=false):(ofQ key (L.take (k+1))).map QL.row=(ofQ key (L.take k)).map QL.row:=by
 rw [take_of h,ofQ,ofQ,List.filter_append,List.filter_cons,List.filter_nil,if_neg (by rw [hk]; simp)]; simp
set_option maxHeartbeats 8000000 in
theorem impl_ofV (kind name key:List UInt8) (L:List QL) (hb:L.length≤1048576) (hL:∀ q∈L,Go.Ab.one q.w=true) (lv:V) (σ:Store) (hl:QV σ L lv):ACalls Tryd.prog 26 [.agg [.t (.str kind),.t (.str name),lv],.t (.str key)] σ fun r σ'=>OVl σ 2 ((ofQ key L).map QL.row) r σ':=by
 refine acalls_of Tryd.func26 (by decide +kernel) (code:=Tryd.f26.body.getD .skip) (n:=25) (c:=c_impl_of) (rs:=[(.tmp 4)]) rfl rfl k_impl_of (by kernel_rfl) (by simp) (fun hσ=>?_)
 have o0:=hl.one
 have l0:=hl.len
 simp only [zH] at l0
 obtain ⟨σ1,h1s⟩:∃ σ1:Store,σ1=σ++[Go.Ab.Obj.box [.t (.str kind),.t (.str name),lv]]:=⟨_,rfl⟩
 simp -implicitDefEqProofs only [c_impl_of,o0,l0,zh,zZ,zA,zB,zC,zD,zE,zG,zH,zI,zJ,zK,if_true,if_false,reduceCtorEq,zW,zX,zY,za,zb]
 rw [← h1s]
 have h1l:σ.length≤σ1.length:=by rw [h1s]; simp
 have k1:Kp σ σ1:=by rw [h1s]; exact Kp.app σ _
 refine loop_g [5,11,1,9,10] [1,9,10] (fun g:Gl=>[(5,g.v),(11,.t (.int .i64 (g.k:Nat)))]) Gl.s (fun g=>g.k≤L.length∧OVl σ1 2 ((ofQ key (L.take g.k)).map QL.row) g.v g.s) (fun g=>L.length - g.k) ⟨0,.nils,σ1⟩ h1l ⟨Nat.zero_le _,OVl.nils⟩ rfl rfl ?_
 rintro ⟨k,v,s⟩ ⟨hk,hv⟩
 simp only at hk hv
 have hone:=hv.one
 have hsl:=hv.le
 simp -implicitDefEqProofs only [keep,zh,zZ,zA,zB,zC,zD,zE,zG,zH,zI,zJ,zK,if_true,if_false,reduceCtorEq,zW,zX,zY,za,zb]
 refine cond_split (fun h1=>?_) (fun h1=>?_)
 ·obtain ⟨x,hx,hlt⟩:=at_of h1
  have more:=i64_succ (show k<4611686018427387904 by omega)
  have c1:0<1:=by omega
  have ox:=hL x (List.mem_of_getElem? hx)
  rcases hl with ⟨h0,_⟩ | ⟨id,rfl,hob⟩
  ·rw [h0] at hx; cases hx
  have hob':s[id]?=some (.slc 2 (L.map QL.row)):=hv.kp.box (k1.box hob)
  have hrl:(L.map QL.row).length=L.length:=List.length_map ..
  have hri:(L.map QL.row)[k]?=some [.t (.str x.x.Key),x.w]:=by rw [List.getElem?_map,hx]; rfl
  have kx:((k:Nat):Int)<((L.length:Nat):Int):=by omega
  have hobA:∀ τ:Store,(s++τ)[id]?=some (.slc 2 (L.map QL.row)):=fun τ=>(Kp.app s τ).box hob'
  simp -implicitDefEqProofs only [hob',hobA,hrl,hri,kx,ox,ze,c1,zV,zd,zm,yA,zh,more,zZ,zA,zB,zC,zD,zE,zG,zH,zI,zJ,zK,if_true,if_false,reduceCtorEq,zW,zX,zY,za,zb]
  refine cond_split (fun h2=>?_) (fun h2=>?_)
  ·have hst:=ofQ_step hx h2
   simp -implicitDefEqProofs only [hobA,hrl,hri,kx,ox,ze,c1,hone,more,zZ,zA,zB,zC,zD,zE,zG,zH,zI,zJ,zK,if_true,if_false,reduceCtorEq,zW,zX,zY,za,zb]
   refine lit_rows ?_
   have hrow:∀ s':Store,rowsOf s' 2 (.rows 2 [[V.t (.str x.x.Key),x.w]])=some [[V.t (.str x.x.Key),x.w]]:=fun s'=>rowsOf_rows (by simp only [List.all_cons,List.all_nil,ox,Bool.and_true]; rfl)
   simp -implicitDefEqProofs only [hrow,zZ,zA,zB,zC,zD,zE,zG,zH,zI,zJ,zK,if_true,if_false,reduceCtorEq,zW,zX,zY,za,zb]
   have hle:=ofQ_le key L k
   refine (hv.more _).app (by simp only [zh,zj,zk,maxBy]; omega) (by simp only [zh,zj,zk]; omega) fun v' s' hl' _ hv'=>?_
   simp -implicitDefEqProofs only [more,zZ,zA,zB,zC,zD,zE,zG,zH,zI,zJ,zK,if_true,if_false,reduceCtorEq,zW,zX,zY,za,zb]
   exact lk_g ⟨k+1,v',s'⟩ (by simp only; omega) ⟨by simp only; omega,by simp only; rw [hst]; exact hv'⟩ (by simp at hl'; omega) rfl rfl
  ·have hst:=ofQ_skip hx h2
   simp -implicitDefEqProofs only [more,zZ,zA,zB,zC,zD,zE,zG,zH,zI,zJ,zK,if_true,if_false,reduceCtorEq,zW,zX,zY,za,zb]
   exact lk_g ⟨k+1,v,_⟩ (by simp only; omega) ⟨by simp only; omega,by simp only; rw [hst]; exact hv.more _⟩ (by simp; omega) rfl rfl
 ·have hkk:=end_of h1 hk
  rw [hkk,List.take_length] at hv
  simp -implicitDefEqProofs only [zZ,zA,zB,zC,zD,zE,zG,zH,zI,zJ,zK,if_true,if_false,reduceCtorEq,zW,zX,zY,za,zb]
  have hb2:=hv.base k1 h1l
  exact fin_keep hb2.le hb2
structure Gq where
 k:Nat
 v:V
 s:Store
 is:List Nat
theorem blk_own {s:Store} {b:SheetBlock} {v:V} {js:List Nat} (h:Own s (tSheetLineS b.Lines) v js):OwnL s b.ts [.t (.str b.Kind),.t (.str b.Name),v] js:=by
 simp only [SheetBlock.ts,OwnL]
 exact ⟨_,_,[],js,rfl,rfl,own_sc rfl,_,_,[],js,rfl,rfl,own_sc rfl,_,_,js,[],rfl,by simp,h,rfl,rfl⟩
def c_impl_clone_sheet:C:=(.seq (.ops [⟨some 1,none,.box (.t 0)⟩,⟨some 2,none,.new [.nils]⟩]) (.seq (.ops [⟨some 3,none,.new [.nils]⟩]) (.seq (.seq (.ops [⟨some 6,none,.fieldAddr 0 (.t 1)⟩,⟨some 7,none,.load none (.t 6)⟩,⟨some 8,none,.len false (.t 7)⟩,⟨some 9,none,.mv (.c (.t (.int .i64 0)))⟩]) (.block 0 (.loop (.seq (.ops [⟨some 10,none,.bin .lss (.t 9) (.t 8)⟩]) (.seq (.cond (.t 10) .skip (.exit 0)) (.seq (.block 1 (.seq (.ops [⟨some 11,none,.indexAddr 3 (.t 7) (.t 9)⟩,⟨some 12,none,.load (some 3) (.t 11)⟩,⟨some 5,none,.new [.t (.str []),.t (.str []),.nils]⟩,⟨none,none,.store 3 (.t 5) (.t 12)⟩]) (.seq (.ops [⟨some 13,none,.fieldAddr 2 (.t 5)⟩,⟨some 14,none,.load none (.t 13)⟩,⟨some 15,none,.call (.c (.fn (.func 45) [])) [.t 14]⟩,⟨some 16,none,.fieldAddr 2 (.t 5)⟩,⟨none,none,.store 1 (.t 16) (.t 15)⟩]) (.ops [⟨some 17,none,.fieldAddr 0 (.t 3)⟩,⟨some 18,none,.load none (.t 17)⟩,⟨some 19,none,.load (some 3) (.t 5)⟩,⟨some 20,none,.lit none 3 1 [.t (.str []),.t (.str []),.nils] [⟨0,.t 19⟩]⟩,⟨some 21,none,.append 3 56 (.t 18) (.t 20)⟩,⟨some 22,none,.fieldAddr 0 (.t 3)⟩,⟨none,none,.store 1 (.t 22) (.t 21)⟩])))) (.ops [⟨some 23,none,.bin .add (.t 9) (.c (.t (.int .i64 1)))⟩,⟨some 9,none,.mv (.t 23)⟩]))))))) (.seq (.ops [⟨some 24,none,.load (some 1) (.t 3)⟩,⟨none,none,.store 1 (.t 2) (.t 24)⟩]) .ret))))
theorem k_impl_clone_sheet:comp Tryd.prog 25 (Tryd.f25.body.getD .skip)=some c_impl_clone_sheet:=by kernel_rfl
set_option maxHeartbeats 8000000 in
theorem impl_clone_sheet (bs:List SheetBlock) (hbs:SheetBlock.OkS bs) (σ:Store):ACalls Tryd.prog 25 [.agg [.t (.lst 3 (bs.map SheetBlock.ts))]] σ (ToLR [tSheetBlockS bs] σ):=by
 refine acalls_of Tryd.func25 (by decide +kernel) (code:=Tryd.f25.body.getD .skip) (n:=25) (c:=c_impl_clone_sheet) (rs:=[(.cell 2 (some 1))]) rfl rfl k_impl_clone_sheet (by kernel_rfl) (by simp) (fun hσ=>?_)
 have y1:=hbs.1
 simp -implicitDefEqProofs only [c_impl_clone_sheet,zh,zZ,zA,zB,zC,zD,zE,zG,zH,zI,zJ,zK,if_true,if_false,reduceCtorEq,zW,zX,zY,za,zb]
 refine loop_g [9,2,3,7,8] [2,3,7,8] (fun g:Gq=>[(9,.t (.int .i64 (g.k:Nat)))]) Gq.s (fun g=>g.k≤bs.length∧Kp σ g.s∧σ.length+3≤g.s.length∧Own g.s (.lst 3 ((bs.take g.k).map SheetBlock.ts)) g.v g.is∧Wi g.is (σ.length+3) g.s.length∧g.s[σ.length]?=some (.box [.t (.lst 3 (bs.map SheetBlock.ts))])∧g.s[σ.length+1]?=some (.box [.nils])∧g.s[σ.length+2]?=some (.box [g.v])) (fun g=>bs.length - g.k) ⟨0,.nils,σ++[.box [.t (.lst 3 (bs.map SheetBlock.ts))],.box [.nils],.box [.nils]],[]⟩ (by simp) ⟨Nat.zero_le _,Kp.app _ _,by simp,by simp [Own],Wi.nil,by simp,by simp,by simp⟩ rfl rfl ?_
 rintro ⟨k,v,s,is⟩ ⟨hk,hkp,hle,ho,hw,e1,e2,e3⟩
 simp only at hk hkp hle ho hw e1 e2 e3
 have hone:=ho.one
 simp -implicitDefEqProofs only [keep,e1,zh,zZ,zA,zB,zC,zD,zE,zG,zH,zI,zJ,zK,if_true,if_false,reduceCtorEq,zW,zX,zY,za,zb]
 refine cond_split (fun h1=>?_) (fun h1=>?_)
 ·obtain ⟨x,hx,hlt⟩:=at_of h1
  have more:=i64_succ (show k<4611686018427387904 by omega)
  have hxo:=hbs.2 x (List.mem_of_getElem? hx)
  have htk:(bs.take (k+1)).map SheetBlock.ts=(bs.take k).map SheetBlock.ts++[x.ts]:=by rw [take_of hx]; simp
  have c3:0<3:=by omega
  simp -implicitDefEqProofs only [e1,e2,e3,hone,hx,block_row hx,c3,zV,zd,zm,yA,zh,SheetBlock.ts,SheetBlock.vs,zZ,zA,zB,zC,zD,zE,zG,zH,zI,zJ,zK,if_true,if_false,reduceCtorEq,zW,zX,zY,za,zb]
  have hcl:=impl_cloneLines x.Lines hxo.Lines
  simp only [tSheetLineS] at hcl
  refine call_new (hcl _) ?_
  intro u s1 js hl1 hkp1 ho1 hw1
  have ou:=ho1.one
  have b0:s1[s.length]?=some (.box [.t (.str x.Kind),.t (.str x.Name),.t (.lst 2 (x.Lines.map SheetLine.ts))]):=hkp1.box (by rw [List.getElem?_append_right (by omega),Nat.sub_self]; rfl)
  simp only [zt,zj,zk] at hl1 hw1
  have b1:∀ o:Go.Ab.Obj,(s1.set s.length o)[s.length]?=some o:=fun o=>List.getElem?_set_self (by omega)
  have ks1:Kp s s1:=fun j hj=>by rw [hkp1 j (by simp; omega),List.getElem?_append_left hj]
  have e3':∀ o:Go.Ab.Obj,(s1.set s.length o)[σ.length+2]?=some (.box [v]):=fun o=>by rw [List.getElem?_set_ne (by omega)]; exact ks1.box e3
  have hrow:∀ (s':Store),rowsOf s' 3 (.rows 3 [[.t (.str x.Kind),.t (.str x.Name),u]])=some [[.t (.str x.Kind),.t (.str x.Name),u]]:=fun s'=>rowsOf_rows (by simp only [List.all_cons,List.all_nil,ou,Bool.and_true]; rfl)
  have c1:0<1:=by omega
  simp -implicitDefEqProofs only [b0,b1,e3',ou,one_cells ou,hone,c1,c3,more,zZ,zA,zB,zC,zD,zE,zG,zH,zI,zJ,zK,if_true,if_false,reduceCtorEq,zW,zX,zY,za,zb]
  refine lit_rows ?_
  simp -implicitDefEqProofs only [hrow,zZ,zA,zB,zC,zD,zE,zG,zH,zI,zJ,zK,if_true,if_false,reduceCtorEq,zW,zX,zY,za,zb]
  obtain ⟨s2,hs2⟩:∃ s2:Store,s2=s1.set s.length (.box [.t (.str x.Kind),.t (.str x.Name),u]):=⟨_,rfl⟩
  rw [← hs2]
  have l2:s2.length=s1.length:=by rw [hs2,List.length_set]
  have kp2:Kp s s2:=fun j hj=>by rw [hs2,List.getElem?_set_ne (by omega)]; exact ks1 j hj
  have o2:Own s2 (tSheetLineS x.Lines) u js:=ho1.frame fun i hi=>by
   have:=hw1.2 i hi
   rw [hs2,List.getElem?_set_ne (by omega)]
  have g1:s2[σ.length]?=some (.box [.t (.lst 3 (bs.map SheetBlock.ts))]):=kp2.box e1
  have g2:s2[σ.length+1]?=some (.box [.nils]):=kp2.box e2
  have g3:s2[σ.length+2]?=some (.box [v]):=kp2.box e3
  refine app_own' (kp2.own ho) (hw.mono (Nat.le_refl _) (by omega)) (r:=x.ts) (js:=js) (blk_own o2) (hw1.mono (by omega) (by omega)) (fun i hi=>by have:=hw.2 i hi; intro hm; have:=hw1.2 i hm; omega) (by omega) (by simp only [maxBy,List.length_take,zh]; omega) (by simp only [List.length_take,zh]; omega) ?_
  intro v' s' is' hl' kb ho' hv' hw'
  have nb:∀ p c,s2[p]?=some (Go.Ab.Obj.box c)→s'[p]?=some (Go.Ab.Obj.box c):=fun p c hp=>by
   rw [kb p (List.getElem?_eq_some_iff.1 hp).1 (own_box (kp2.own ho) hp)]; exact hp
  have g3':=nb _ _ g3
  have ov:=ho'.one
  simp -implicitDefEqProofs only [g3',ov,one_cells ov,more,zZ,zA,zB,zC,zD,zE,zG,zH,zI,zJ,zK,if_true,if_false,reduceCtorEq,zW,zX,zY,za,zb]
  have c3n:σ.length+2∉is':=own_box ho' g3'
  refine lk_g ⟨k+1,v',s'.set (σ.length+2) (.box [v']),is'⟩ (by simp only; omega) ⟨by simp only; omega,?_,?_,?_,?_,?_,?_,?_⟩ (by rw [List.length_set]; omega) rfl rfl
  ·refine Kp.set (fun j hj=>?_) (by omega)
   rw [kb j (by omega) (fun hm=>by have:=hw.2 j hm; omega),kp2 j (by omega),hkp j hj]
  ·simp only [zl]; omega
  ·simp only
   rw [htk]
   exact set_own ho' c3n
  ·simp only [zl]; exact hw'
  ·simp only
   rw [List.getElem?_set_ne (by omega)]; exact nb _ _ g1
  ·simp only
   rw [List.getElem?_set_ne (by omega)]; exact nb _ _ g2
  ·exact List.getElem?_set_self (by omega)
 ·have hkk:=end_of h1 hk
  rw [hkk,List.take_length] at ho
  have e2t:∀ o:Go.Ab.Obj,(s.set (σ.length+1) o)[σ.length+1]?=some o:=fun o=>List.getElem?_set_self (by omega)
  simp -implicitDefEqProofs only [e1,e2,e3,e2t,hone,one_cells hone,zZ,zA,zB,zC,zD,zE,zG,zH,zI,zJ,zK,if_true,if_false,reduceCtorEq,zW,zX,zY,za,zb]
  refine fin_keep (by simp; omega) ⟨[v],_,is,rfl,kp_split (hkp.set (by omega)) (by simp; omega),?_,hw.mono (by omega) (by simp)⟩
  simp only [OwnL]
  exact ⟨v,[],is,[],rfl,by simp,set_own ho (own_box ho e2),rfl,rfl⟩
end Go.Proofs.YtnnnemgbgilfaaaDoor.W
end
section
open Go Go.Ab
set_option maxHeartbeats 2000000
namespace Go.Proofs.YtnnnemgbgilfaaaDoor.W
def putIx (kind:List UInt8) (ls:List SheetLine) (x:SheetLine):Nat:=(ls.takeWhile fun l=>lineLess kind l x).length
def putR (b:SheetBlock) (x:SheetLine):SheetBlock:={ b with Lines:=b.Lines.take (putIx b.Kind b.Lines x)++[x]++b.Lines.drop (putIx b.Kind b.Lines x) }
theorem put_ix {kind:List UInt8} {x:SheetLine}:∀ {ls:List SheetLine} {k:Nat},k≤ls.length→(ls.take k).all (fun l=>lineLess kind l x)=true→(∀ l,ls[k]?=some l→lineLess kind l x=false)→putIx kind ls x=k
 | [],k,hk,_,_=>by
  have:k=0:=by simpa using hk
  subst this; rfl
 | a::ls,0,_,_,h=>by
  have:=h a rfl
  simp [putIx,this]
 | a::ls,k+1,hk,h,h2=>by
  simp only [z0,List.all_cons,yB] at h
  have ih:=put_ix (kind:=kind) (x:=x) (ls:=ls) (k:=k) (by simpa using hk) h.2 (fun l hl=>h2 l (by simpa using hl))
  simp only [putIx] at ih
  simp only [putIx,List.takeWhile_cons,h.1,if_true,zj,ih]
def c_spec_l39PutLine:C:=(.seq (.ops [⟨some 2,none,.box (.t 0)⟩,⟨some 3,none,.box (.t 1)⟩,⟨some 4,none,.new [.t (.str []),.t (.str []),.nils]⟩]) (.seq (.ops [⟨some 5,none,.mv (.c (.t (.int .i64 0)))⟩]) (.seq (.block 0 (.loop (.seq (.seq (.drawn [.mk 0 false ⟨some 6,none,.mv (.t 5)⟩ [],.mk 1 false ⟨some 7,none,.fieldAddr 2 (.t 2)⟩ [],.mk 2 false ⟨some 8,none,.load none (.t 7)⟩ [],.mk 3 false ⟨some 9,none,.len false (.t 8)⟩ [],.mk 4 false ⟨some 10,none,.bin .lss (.t 6) (.t 9)⟩ [],.mk 5 false ⟨some 11,none,.mv (.t 10)⟩ [],.mk 6 false ⟨some 12,some ⟨11,true⟩,.fieldAddr 0 (.t 2)⟩ [],.mk 7 false ⟨some 13,some ⟨11,true⟩,.load none (.t 12)⟩ [],.mk 8 false ⟨some 14,some ⟨11,true⟩,.fieldAddr 2 (.t 2)⟩ [],.mk 9 false ⟨some 15,some ⟨11,true⟩,.load none (.t 14)⟩ [],.mk 10 false ⟨some 16,some ⟨11,true⟩,.mv (.t 5)⟩ [],.mk 11 false ⟨some 17,some ⟨11,true⟩,.indexAddr 2 (.t 15) (.t 16)⟩ [],.mk 12 false ⟨some 18,some ⟨11,true⟩,.load (some 2) (.t 17)⟩ [],.mk 13 false ⟨some 19,some ⟨11,true⟩,.load (some 2) (.t 3)⟩ [],.mk 14 false ⟨some 20,some ⟨11,true⟩,.call (.c (.fn (.func 64) [])) [.t 13,.t 18,.t 19]⟩ [],.mk 15 false ⟨some 21,none,.pick (.t 11) (.t 20) (.c (.t (.bool false)))⟩ []]) (.cond (.t 21) .skip (.exit 0))) (.block 1 (.ops [⟨some 22,none,.mv (.t 5)⟩,⟨some 23,none,.bin .add (.t 22) (.c (.t (.int .i64 1)))⟩,⟨some 5,none,.mv (.t 23)⟩]))))) (.seq (.drawn [.mk 0 false ⟨some 24,none,.lit (some false) 2 0 [.t (.str []),.nils] []⟩ [],.mk 1 false ⟨some 25,none,.fieldAddr 2 (.t 2)⟩ [],.mk 2 false ⟨some 26,none,.load none (.t 25)⟩ [],.mk 3 false ⟨some 27,none,.mv (.t 5)⟩ [],.mk 4 false ⟨some 28,none,.sliceSl 2 (.t 26) none (some (.t 27))⟩ [],.mk 6 false ⟨some 30,none,.load (some 2) (.t 3)⟩ [],.mk 7 false ⟨some 31,none,.lit (some false) 2 1 [.t (.str []),.nils] [⟨0,.t 30⟩]⟩ [],.mk 9 false ⟨some 33,none,.fieldAddr 2 (.t 2)⟩ [],.mk 10 false ⟨some 34,none,.load none (.t 33)⟩ [],.mk 11 false ⟨some 35,none,.mv (.t 5)⟩ [],.mk 12 false ⟨some 36,none,.sliceSl 2 (.t 34) (some (.t 35)) none⟩ [],.mk 5 true ⟨some 29,none,.append 2 40 (.t 24) (.t 28)⟩ [⟨some 30,none,.load (some 2) (.t 3)⟩,⟨some 34,none,.load none (.t 33)⟩,⟨some 36,none,.sliceSl 2 (.t 34) (some (.t 35)) none⟩],.mk 8 true ⟨some 32,none,.append 2 40 (.t 29) (.t 31)⟩ [⟨some 34,none,.load none (.t 33)⟩,⟨some 36,none,.sliceSl 2 (.t 34) (some (.t 35)) none⟩],.mk 13 false ⟨some 37,none,.append 2 40 (.t 32) (.t 36)⟩ [],.mk 14 false ⟨some 38,none,.fieldAddr 2 (.t 2)⟩ [],.mk 15 false ⟨none,none,.store 1 (.t 38) (.t 37)⟩ []]) (.seq (.ops [⟨some 39,none,.load (some 3) (.t 2)⟩,⟨none,none,.store 3 (.t 4) (.t 39)⟩]) .ret)))))
theorem k_spec_l39PutLine:comp Tryd.prog 40 (Tryd.f35.body.getD .skip)=some c_spec_l39PutLine:=by kernel_rfl
set_option maxHeartbeats 16000000 in
theorem spec_l39PutLine (b:SheetBlock) (hb:b.Ok) (x:SheetLine) (hxo:x.Ok) (σ:Store):ACalls Tryd.prog 35 [.agg b.vs,.agg x.vs] σ fun r σ'=>r=.agg (putR b x).vs∧σ'=σ:=by
 refine acalls_frzL (ts:=(putR b x).ts) ?_
 refine acalls_of Tryd.func35 (by decide +kernel) (code:=Tryd.f35.body.getD .skip) (n:=40) (c:=c_spec_l39PutLine) (rs:=[(.cell 4 (some 3))]) rfl rfl k_spec_l39PutLine (by kernel_rfl) (by simp) (fun hσ=>?_)
 have y1:=hb.Lines.1
 simp -implicitDefEqProofs only [c_spec_l39PutLine,SheetBlock.vs,SheetLine.vs,zh,zZ,zA,zB,zC,zD,zE,zG,zH,zI,zJ,zK,if_true,if_false,reduceCtorEq,zW,zX,zY,za,zb]
 refine loop_p [5,2,3,4] [2,3,4] (fun k:Nat=>[(5,.t (.int .i64 (k:Nat)))]) (fun k=>k≤b.Lines.length∧(b.Lines.take k).all (fun l=>lineLess b.Kind l x)=true) (fun k=>b.Lines.length - k) 0 (by simp) ⟨Nat.zero_le _,rfl⟩ rfl ?_
 rintro k ⟨hk,hall⟩
 have done:putIx b.Kind b.Lines x=k→_:=fun h=>h
 simp -implicitDefEqProofs only [keep,zh,zZ,zA,zB,zC,zD,zE,zG,zH,zI,zJ,zK,if_true,if_false,reduceCtorEq,zW,zX,zY,za,zb]
 rcases hd:decide ((k:Int)<((b.Lines.length:Nat):Int)) with _ | _
 ·have hix:putIx b.Kind b.Lines x=k:=put_ix hk hall fun l hl=>by
   have:=(List.getElem?_eq_some_iff.1 hl).1
   simp at hd; omega
  simp -implicitDefEqProofs only [hd,cond_t,cond_f,zh,zZ,zA,zB,zC,zD,zE,zG,zH,zI,zJ,zK,if_true,if_false,reduceCtorEq,zW,zX,zY,za,zb]
  have hrow:∀ s':Store,rowsOf s' 2 (.rows 2 [[.t (.str x.Key),.t (.lst 1 (x.Words.map tStr))]])=some [[.t (.str x.Key),.t (.lst 1 (x.Words.map tStr))]]:=fun s'=>rowsOf_rows rfl
  have htl:List.take b.Lines.length (b.Lines.map SheetLine.ts)=b.Lines.map SheetLine.ts:=List.take_of_length_le (by simp)
  have a1:((b.Lines.map SheetLine.ts).take k).length * 40≤maxBy:=by simp only [List.length_take,zh,maxBy]; omega
  have a2:((b.Lines.map SheetLine.ts).take k).length≤9223372036854775807:=by simp only [List.length_take,zh]; omega
  have a3:((b.Lines.map SheetLine.ts).drop k).length≤1048576:=by simp only [List.length_drop,zh]; omega
  have a4:((b.Lines.map SheetLine.ts).take k).length≤1048576:=by simp only [List.length_take,zh]; omega
  rw [htl]
  repeat ((with_reducible refine And.intro ?_ ?_); (· first | omega | exact a1 | assumption))
  obtain ⟨A,hA⟩:∃ A,A=(b.Lines.map SheetLine.ts).take k:=⟨_,rfl⟩
  obtain ⟨D,hD⟩:∃ D,D=(b.Lines.map SheetLine.ts).drop k:=⟨_,rfl⟩
  have aA:A.length≤1048576:=by rw [hA]; exact a4
  have aD:D.length≤1048576:=by rw [hD]; exact a3
  rw [← hA,← hD]
  have hrows:(putR b x).Lines.map SheetLine.ts=A++[x.ts]++D:=by rw [hA,hD]; simp [putR,hix,List.map_take,List.map_drop]
  have hbt:(putR b x).ts=[.str b.Kind,.str b.Name,.lst 2 (A++[x.ts]++D)]:=by rw [SheetBlock.ts,hrows]; rfl
  refine And.intro (fun he=>?_) (fun he=>?_)
  ·have hA0:A=[]:=by simpa using he
   simp -implicitDefEqProofs only [hrow,zZ,zA,zB,zC,zD,zE,zG,zH,zI,zJ,zK,if_true,if_false,reduceCtorEq,zW,zX,zY,za,zb]
   refine And.intro (by decide) (And.intro (fun h=>h.elim) fun _=>And.intro (by simp only [maxBy]; omega) (And.intro (by omega) ?_))
   refine fin_keep (by simp) ⟨_,_,rfl,rfl,?_⟩
   rw [hbt,hA0]
   simp only [SeesFL]
   refine ⟨_,_,rfl,seesF_t _,_,_,rfl,seesF_t _,_,_,rfl,seesF_rows (by omega) (by omega) ?_ (by simp; omega),rfl⟩
   rw [List.getElem?_append_right (by omega),Nat.add_sub_cancel_left]
   simp [SheetLine.ts]
  ·simp -implicitDefEqProofs only [hrow,zZ,zA,zB,zC,zD,zE,zG,zH,zI,zJ,zK,if_true,if_false,reduceCtorEq,zW,zX,zY,za,zb]
   refine And.intro (by simp only [maxBy]; omega) (And.intro (by omega) (And.intro (.inr ?_) (And.intro (by simp only [maxBy]; omega) (And.intro (by omega) ?_))))
   ·refine ⟨fun _=>⟨_,_,rfl,rfl,?_⟩,fun _=>⟨_,_,rfl,rfl,?_⟩,trivial⟩
    ·simp -implicitDefEqProofs only [ev,eqK,evLoad,onV,onBox,ldV,zZ,zA,zB,zC,zD,zE,zG,zH,zI,zJ,zK,if_true,if_false,reduceCtorEq,zW,zX,zY,za,zb]
    ·simp -implicitDefEqProofs only [ev,eqK,onV,evSliceSl,evSlice,bnd,bndV,zV,zd,zh,htl,hk,zZ,zA,zB,zC,zD,zE,zG,zH,zI,zJ,zK,if_true,if_false,reduceCtorEq,zW,zX,zY,za,zb]
     rw [hD]
   refine fin_keep (by simp) ⟨_,_,rfl,rfl,?_⟩
   rw [hbt]
   simp only [SeesFL]
   refine ⟨_,_,rfl,seesF_t _,_,_,rfl,seesF_t _,_,_,rfl,seesF_rows (by omega) (by omega) ?_ (by simp; omega),rfl⟩
   rw [List.getElem?_append_right (by omega),Nat.add_sub_cancel_left]
   simp [SheetLine.ts]
 ·obtain ⟨y,hx,hlt⟩:=at_of hd
  have hyo:=hb.Lines.2 y (List.mem_of_getElem? hx)
  have more:=i64_succ (show k<4611686018427387904 by omega)
  simp -implicitDefEqProofs only [hd,cond_t,cond_f,hx,more,zV,zd,zm,yA,zh,SheetLine.ts,SheetLine.vs,zZ,zA,zB,zC,zD,zE,zG,zH,zI,zJ,zK,if_true,if_false,reduceCtorEq,zW,zX,zY,za,zb]
  have hll:=spec_l39LineLess b.Kind y x hyo hxo
  simp only [SheetLine.vs] at hll
  refine call_pure (hll _) ?_
  rcases hl:lineLess b.Kind y x with _ | _
  ·have hix:putIx b.Kind b.Lines x=k:=put_ix hk hall fun l hl'=>by rw [hx] at hl'; cases hl'; exact hl
   simp -implicitDefEqProofs only [hd,cond_t,cond_f,hx,more,zV,zd,zm,yA,zh,SheetLine.ts,SheetLine.vs,zZ,zA,zB,zC,zD,zE,zG,zH,zI,zJ,zK,if_true,if_false,reduceCtorEq,zW,zX,zY,za,zb]
   have hrow:∀ s':Store,rowsOf s' 2 (.rows 2 [[.t (.str x.Key),.t (.lst 1 (x.Words.map tStr))]])=some [[.t (.str x.Key),.t (.lst 1 (x.Words.map tStr))]]:=fun s'=>rowsOf_rows rfl
   have htl:List.take b.Lines.length (b.Lines.map SheetLine.ts)=b.Lines.map SheetLine.ts:=List.take_of_length_le (by simp)
   have a1:((b.Lines.map SheetLine.ts).take k).length * 40≤maxBy:=by simp only [List.length_take,zh,maxBy]; omega
   have a2:((b.Lines.map SheetLine.ts).take k).length≤9223372036854775807:=by simp only [List.length_take,zh]; omega
   have a3:((b.Lines.map SheetLine.ts).drop k).length≤1048576:=by simp only [List.length_drop,zh]; omega
   have a4:((b.Lines.map SheetLine.ts).take k).length≤1048576:=by simp only [List.length_take,zh]; omega
   rw [htl]
   repeat ((with_reducible refine And.intro ?_ ?_); (· first | omega | exact a1 | assumption))
   obtain ⟨A,hA⟩:∃ A,A=(b.Lines.map SheetLine.ts).take k:=⟨_,rfl⟩
   obtain ⟨D,hD⟩:∃ D,D=(b.Lines.map SheetLine.ts).drop k:=⟨_,rfl⟩
   have aA:A.length≤1048576:=by rw [hA]; exact a4
   have aD:D.length≤1048576:=by rw [hD]; exact a3
   rw [← hA,← hD]
   have hrows:(putR b x).Lines.map SheetLine.ts=A++[x.ts]++D:=by rw [hA,hD]; simp [putR,hix,List.map_take,List.map_drop]
   have hbt:(putR b x).ts=[.str b.Kind,.str b.Name,.lst 2 (A++[x.ts]++D)]:=by rw [SheetBlock.ts,hrows]; rfl
   refine And.intro (fun he=>?_) (fun he=>?_)
   ·have hA0:A=[]:=by simpa using he
    simp -implicitDefEqProofs only [hrow,zZ,zA,zB,zC,zD,zE,zG,zH,zI,zJ,zK,if_true,if_false,reduceCtorEq,zW,zX,zY,za,zb]
    refine And.intro (by decide) (And.intro (fun h=>h.elim) fun _=>And.intro (by simp only [maxBy]; omega) (And.intro (by omega) ?_))
    refine fin_keep (by simp) ⟨_,_,rfl,rfl,?_⟩
    rw [hbt,hA0]
    simp only [SeesFL]
    refine ⟨_,_,rfl,seesF_t _,_,_,rfl,seesF_t _,_,_,rfl,seesF_rows (by omega) (by omega) ?_ (by simp; omega),rfl⟩
    rw [List.getElem?_append_right (by omega),Nat.add_sub_cancel_left]
    simp [SheetLine.ts]
   ·simp -implicitDefEqProofs only [hrow,zZ,zA,zB,zC,zD,zE,zG,zH,zI,zJ,zK,if_true,if_false,reduceCtorEq,zW,zX,zY,za,zb]
    refine And.intro (by simp only [maxBy]; omega) (And.intro (by omega) (And.intro (.inr ?_) (And.intro (by simp only [maxBy]; omega) (And.intro (by omega) ?_))))
    ·refine ⟨fun _=>⟨_,_,rfl,rfl,?_⟩,fun _=>⟨_,_,rfl,rfl,?_⟩,trivial⟩
     ·simp -implicitDefEqProofs only [ev,eqK,evLoad,onV,onBox,ldV,zZ,zA,zB,zC,zD,zE,zG,zH,zI,zJ,zK,if_true,if_false,reduceCtorEq,zW,zX,zY,za,zb]
     ·simp -implicitDefEqProofs only [ev,eqK,onV,evSliceSl,evSlice,bnd,bndV,zV,zd,zh,htl,hk,zZ,zA,zB,zC,zD,zE,zG,zH,zI,zJ,zK,if_true,if_false,reduceCtorEq,zW,zX,zY,za,zb]
      rw [hD]
    refine fin_keep (by simp) ⟨_,_,rfl,rfl,?_⟩
    rw [hbt]
    simp only [SeesFL]
    refine ⟨_,_,rfl,seesF_t _,_,_,rfl,seesF_t _,_,_,rfl,seesF_rows (by omega) (by omega) ?_ (by simp; omega),rfl⟩
    rw [List.getElem?_append_right (by omega),Nat.add_sub_cancel_left]
    simp [SheetLine.ts]
  ·simp -implicitDefEqProofs only [hd,cond_t,cond_f,hx,more,zV,zd,zm,yA,zh,SheetLine.ts,SheetLine.vs,zZ,zA,zB,zC,zD,zE,zG,zH,zI,zJ,zK,if_true,if_false,reduceCtorEq,zW,zX,zY,za,zb]
   exact lk_p0 (k+1) (by simp) (by simp) (by omega) ⟨by omega,by rw [take_of hx,List.all_append,hall]; simp [hl]⟩ rfl
end Go.Proofs.YtnnnemgbgilfaaaDoor.W
end
