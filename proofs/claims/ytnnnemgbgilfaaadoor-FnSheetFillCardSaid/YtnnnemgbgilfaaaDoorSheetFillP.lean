/- What a sheet says of a key. Conditions: none. -/
/- How a sheet is filled. Conditions: none. -/
/- The plain law of filling: lines put in their places, or key by key. Conditions: none. -/
import Derived.Test.YtnnnemgbgilfaaaDoorSheetFillA2
set_option linter.unusedSimpArgs false
set_option linter.unusedVariables false
set_option linter.defProp false
open Bool renaming and_eq_true → yB
open Go.Ab renaming eget → zC, env0 → zD, isNilP → zI, isNilS → zJ, lenSl → zH, lenStr → zG, nat_nn → zV, opv → zA, opvs → zB, putAt → zK, setD → zE
open List renaming getElem?_map → zm, length_append → zt, length_cons → zj, length_map → zh, length_nil → zk, map_cons → zu, nil_append → zr
open Nat renaming reduceAdd → zb, reduceEqDiff → zX, reduceLeDiff → zW, reduceMul → za, reduceSub → zY, zero_add → ze, zero_le → zd
open Option renaming map_some → yA
section
open Go Go.Ab
set_option maxHeartbeats 2000000
namespace Go.Proofs.YtnnnemgbgilfaaaDoor.W
def c_spec_l41Of:C:=(.seq (.ops [⟨some 2,none,.box (.t 0)⟩,⟨some 4,none,.mv (.c .nils)⟩]) (.seq (.ops [⟨some 7,none,.lit none 2 0 [.t (.str []),.nils] []⟩,⟨some 5,none,.mv (.t 7)⟩]) (.seq (.seq (.ops [⟨some 6,none,.mv (.c (.t (.int .i64 0)))⟩]) (.block 0 (.loop (.seq (.seq (.ops [⟨some 8,none,.mv (.t 6)⟩,⟨some 9,none,.fieldAddr 2 (.t 2)⟩,⟨some 10,none,.load none (.t 9)⟩,⟨some 11,none,.len false (.t 10)⟩,⟨some 12,none,.bin .lss (.t 8) (.t 11)⟩]) (.cond (.t 12) .skip (.exit 0))) (.seq (.block 1 (.seq (.ops [⟨some 15,none,.fieldAddr 2 (.t 2)⟩,⟨some 16,none,.load none (.t 15)⟩,⟨some 17,none,.mv (.t 6)⟩,⟨some 18,none,.indexAddr 2 (.t 16) (.t 17)⟩,⟨some 19,none,.fieldAddr 0 (.t 18)⟩,⟨some 20,none,.load none (.t 19)⟩,⟨some 21,none,.mv (.t 1)⟩,⟨some 22,none,.bin .eql (.t 20) (.t 21)⟩]) (.cond (.t 22) (.ops [⟨some 23,none,.mv (.t 5)⟩,⟨some 24,none,.fieldAddr 2 (.t 2)⟩,⟨some 25,none,.load none (.t 24)⟩,⟨some 26,none,.mv (.t 6)⟩,⟨some 27,none,.indexAddr 2 (.t 25) (.t 26)⟩,⟨some 28,none,.load (some 2) (.t 27)⟩,⟨some 29,none,.lit none 2 1 [.t (.str []),.nils] [⟨0,.t 28⟩]⟩,⟨some 30,none,.append 2 40 (.t 23) (.t 29)⟩,⟨some 5,none,.mv (.t 30)⟩]) .skip))) (.ops [⟨some 13,none,.mv (.t 6)⟩,⟨some 14,none,.bin .add (.t 13) (.c (.t (.int .i64 1)))⟩,⟨some 6,none,.mv (.t 14)⟩])))))) (.seq (.ops [⟨some 31,none,.mv (.t 5)⟩,⟨some 32,none,.call (.c (.fn (.func 63) [])) [.t 31]⟩,⟨some 4,none,.mv (.t 32)⟩]) .ret))))
theorem k_spec_l41Of:comp Tryd.prog 33 (Tryd.f34.body.getD .skip)=some c_spec_l41Of:=by kernel_rfl
set_option maxHeartbeats 8000000 in
theorem spec_l41Of (b:SheetBlock) (hb:b.Ok) (key:List UInt8) (σ:Store):ACalls Tryd.prog 34 [.agg b.vs,.t (.str key)] σ fun r σ'=>r=.t (tSheetLineS (ofR key b.Lines))∧σ'=σ:=by
 refine acalls_frz1 (t:=tSheetLineS (ofR key b.Lines)) ?_
 refine acalls_of Tryd.func34 (by decide +kernel) (code:=Tryd.f34.body.getD .skip) (n:=33) (c:=c_spec_l41Of) (rs:=[(.tmp 4)]) rfl rfl k_spec_l41Of (by kernel_rfl) (by simp) (fun hσ=>?_)
 have y1:=hb.Lines.1
 have hlo:=ofR_ok (key:=key) hb.Lines
 have c2:0<2:=by omega
 simp -implicitDefEqProofs only [c_spec_l41Of,SheetBlock.vs,zh,c2,zZ,zA,zB,zC,zD,zE,zG,zH,zI,zJ,zK,if_true,if_false,reduceCtorEq,zW,zX,zY,za,zb]
 refine lit_rows ?_
 simp -implicitDefEqProofs only [zh,zZ,zA,zB,zC,zD,zE,zG,zH,zI,zJ,zK,if_true,if_false,reduceCtorEq,zW,zX,zY,za,zb]
 obtain ⟨ls,hls⟩:∃ ls,ls=b.Lines:=⟨_,rfl⟩
 rw [← hls] at y1 hlo ⊢
 obtain ⟨σ1,h1s⟩:∃ σ1,σ1=σ++[.box [.t (.str b.Kind),.t (.str b.Name),.t (.lst 2 (ls.map SheetLine.ts))]]:=⟨_,rfl⟩
 have h1b:σ1[σ.length]?=some (.box [.t (.str b.Kind),.t (.str b.Name),.t (.lst 2 (ls.map SheetLine.ts))]):=by rw [h1s]; simp
 rw [← h1s]
 have h1l:σ.length≤σ1.length:=by rw [h1s]; simp
 refine loop_g [5,6,1,2] [1,2] (fun g:Gl=>[(5,g.v),(6,.t (.int .i64 (g.k:Nat)))]) Gl.s (fun g=>g.k≤ls.length∧OVl σ1 2 (rowsV (ofR key (ls.take g.k))) g.v g.s) (fun g=>ls.length - g.k) ⟨0,.rows 2 [],σ1⟩ h1l ⟨Nat.zero_le _,OVl.rows0⟩ rfl rfl ?_
 rintro ⟨k,v,s⟩ ⟨hk,hv⟩
 simp only at hk hv
 have hone:=hv.one
 have hsl:=hv.le
 have hbx:=hv.kp.box h1b
 simp -implicitDefEqProofs only [keep,zh,hbx,zZ,zA,zB,zC,zD,zE,zG,zH,zI,zJ,zK,if_true,if_false,reduceCtorEq,zW,zX,zY,za,zb]
 refine cond_split (fun h1=>?_) (fun h1=>?_)
 ·obtain ⟨x,hx,hlt⟩:=at_of h1
  have more:=i64_succ (show k<4611686018427387904 by omega)
  have c1:0<1:=by omega
  simp -implicitDefEqProofs only [hx,zV,zd,zm,yA,zh,SheetLine.ts,SheetLine.vs,more,c1,hbx,zZ,zA,zB,zC,zD,zE,zG,zH,zI,zJ,zK,if_true,if_false,reduceCtorEq,zW,zX,zY,za,zb]
  refine cond_split (fun h2=>?_) (fun h2=>?_)
  ·have hst:=rowsV_step hx h2
   simp -implicitDefEqProofs only [hx,zV,zd,zm,yA,zh,SheetLine.ts,SheetLine.vs,more,c1,hbx,hone,zZ,zA,zB,zC,zD,zE,zG,zH,zI,zJ,zK,if_true,if_false,reduceCtorEq,zW,zX,zY,za,zb]
   refine lit_rows ?_
   have hrow:∀ s':Store,rowsOf s' 2 (.rows 2 [[V.t (.str x.Key),V.t (.lst 1 (x.Words.map tStr))]])=some [[V.t (.str x.Key),V.t (.lst 1 (x.Words.map tStr))]]:=fun s'=>rowsOf_rows rfl
   simp -implicitDefEqProofs only [hrow,zZ,zA,zB,zC,zD,zE,zG,zH,zI,zJ,zK,if_true,if_false,reduceCtorEq,zW,zX,zY,za,zb]
   have hle:=ofR_le key ls k
   refine hv.app (by simp only [zh,zj,zk,maxBy]; omega) (by simp only [zh,zj,zk]; omega) fun v' s' hl' _ hv'=>?_
   simp -implicitDefEqProofs only [more,zZ,zA,zB,zC,zD,zE,zG,zH,zI,zJ,zK,if_true,if_false,reduceCtorEq,zW,zX,zY,za,zb]
   exact lk_g ⟨k+1,v',s'⟩ (by simp only; omega) ⟨by simp only; omega,by simp only; rw [hst]; exact hv'⟩ (by omega) rfl rfl
  ·have hst:=rowsV_skip hx h2
   simp -implicitDefEqProofs only [hx,zV,zd,zm,yA,zh,SheetLine.ts,SheetLine.vs,more,c1,zZ,zA,zB,zC,zD,zE,zG,zH,zI,zJ,zK,if_true,if_false,reduceCtorEq,zW,zX,zY,za,zb]
   exact lk_g ⟨k+1,v,s⟩ (by simp only; omega) ⟨by simp only; omega,by simp only; rw [hst]; exact hv⟩ (by omega) rfl rfl
 ·have hkk:=end_of h1 hk
  rw [hkk,List.take_length] at hv
  simp -implicitDefEqProofs only [zZ,zA,zB,zC,zD,zE,zG,zH,zI,zJ,zK,if_true,if_false,reduceCtorEq,zW,zX,zY,za,zb]
  have hb2:OVl σ 2 (rowsV (ofR key ls)) v s:=hv.base (by rw [h1s]; exact Kp.app σ _) h1l
  obtain ⟨τ,hτ⟩:=hb2.split
  refine call_by (by rw [List.append_nil]; exact acalls_to (fun σ=>spec_l39LinesO _ hlo σ) (lines_seesA hb2)) ?_
  rintro r σ' ⟨τ',is,rfl,ho,hw⟩
  simp -implicitDefEqProofs only [zZ,zA,zB,zC,zD,zE,zG,zH,zI,zJ,zK,if_true,if_false,reduceCtorEq,zW,zX,zY,za,zb]
  have hl0:=hb2.le
  refine fin_keep (by simp; omega) ⟨τ++τ',by rw [hτ,List.append_assoc],ho.seesF fun i hi=>?_⟩
  have:=(hw.2 i hi).1
  omega
def isB (kind name:List UInt8) (b:SheetBlock):Bool:=b.Kind == kind && b.Name == name
def blockIx (s:Sheet) (kind name:List UInt8):Int:=findI (isB kind name) s.Blocks 0
def c__impl_Sheet__at_1:C:=(.seq (.ops [⟨some 3,none,.box (.t 0)⟩,⟨some 4,none,.mv (.c (.t (.bool false)))⟩]) (.seq (.ops [⟨some 5,none,.fieldAddr 0 (.t 3)⟩,⟨some 6,none,.load none (.t 5)⟩,⟨some 7,none,.load none (.t 1)⟩,⟨some 8,none,.bin .eql (.t 6) (.t 7)⟩,⟨some 9,none,.mv (.t 8)⟩,⟨some 10,some ⟨9,true⟩,.fieldAddr 1 (.t 3)⟩,⟨some 11,some ⟨9,true⟩,.load none (.t 10)⟩,⟨some 12,some ⟨9,true⟩,.load none (.t 2)⟩,⟨some 13,some ⟨9,true⟩,.bin .eql (.t 11) (.t 12)⟩,⟨some 14,none,.pick (.t 9) (.t 13) (.c (.t (.bool false)))⟩,⟨some 4,none,.mv (.t 14)⟩]) .ret))
theorem k__impl_Sheet__at_1:comp Tryd.prog 15 (Tryd.f74.body.getD .skip)=some c__impl_Sheet__at_1:=by kernel_rfl
theorem at_one (b:SheetBlock) (kind name:List UInt8) (p1 p2:Nat) (σ:Store) (h1:σ[p1]?=some (.box [.t (.str kind)])) (h2:σ[p2]?=some (.box [.t (.str name)])):ACalls Tryd.prog 74 [.agg b.vs,.ptr p1 0,.ptr p2 0] σ fun rr σ'=>rr=.t (.bool (isB kind name b))∧σ'=σ:=by
 refine acalls_of Tryd.func74 (by decide +kernel) (code:=Tryd.f74.body.getD .skip) (n:=15) (c:=c__impl_Sheet__at_1) (rs:=[(.tmp 4)]) rfl rfl k__impl_Sheet__at_1 (by kernel_rfl) (by simp) (fun hσ=>?_)
 have hh:True:=trivial
 have fin:∀ {u:V} {τ:Store},u=.t (.bool (isB kind name b))→u.lt σ.length=true→retV σ.length (fun rr σ'=>rr=.t (.bool (isB kind name b))∧σ'=σ) (σ++τ) (some [u]):=fun h h2=>ret_same rfl hσ h2 ⟨h,rfl⟩
 have fin0:∀ {u:V},u=.t (.bool (isB kind name b))→retV σ.length (fun rr σ'=>rr=.t (.bool (isB kind name b))∧σ'=σ) σ (some [u]):=fun h=>ret_same0 rfl ⟨h,rfl⟩
 have g1:∀ τ:Store,(σ++τ)[p1]?=some (.box [.t (.str kind)]):=fun τ=>(Kp.app σ τ).box h1
 have g2:∀ τ:Store,(σ++τ)[p2]?=some (.box [.t (.str name)]):=fun τ=>(Kp.app σ τ).box h2
 simp -implicitDefEqProofs only [c__impl_Sheet__at_1,SheetBlock.vs,g1,g2,zZ,zA,zB,zC,zD,zE,zG,zH,zI,zJ,zK,if_true,if_false,reduceCtorEq,zW,zX,zY,za,zb]
 repeat' (first
  | ((with_reducible refine cond_known (fun h=>?_) (fun h=>?_)) <;> (replace hh:=And.intro h hh; clear h; simp -implicitDefEqProofs only [hh,cond_t,cond_f,g1,g2,zZ,zA,zB,zC,zD,zE,zG,zH,zI,zJ,zK,if_true,if_false,reduceCtorEq,zW,zX,zY,za,zb]))
  | (first | ((with_reducible refine fin0 ?_); refine tb ?_; (try simp only [Known] at hh); unfold isB; grind) | ((with_reducible refine fin ?_ ?_); rotate_left; exact rfl; refine tb ?_; (try simp only [Known] at hh); unfold isB; grind)))
def c_slices_IndexFunc___impl_SheetBlock_impl_SheetBlock_:C:=(.seq (.ops [⟨some 4,none,.mv (.c (.t (.int .i64 0)))⟩]) (.seq (.seq (.ops [⟨some 6,none,.mv (.t 0)⟩,⟨some 7,none,.len false (.t 6)⟩,⟨some 8,none,.mv (.c (.t (.int .i64 0)))⟩]) (.block 0 (.loop (.seq (.ops [⟨some 9,none,.bin .lss (.t 8) (.t 7)⟩]) (.seq (.cond (.t 9) .skip (.exit 0)) (.seq (.block 1 (.seq (.ops [⟨some 10,none,.mv (.t 8)⟩,⟨some 5,none,.mv (.t 10)⟩]) (.seq (.ops [⟨some 11,none,.mv (.t 1)⟩,⟨some 12,none,.mv (.t 0)⟩,⟨some 13,none,.mv (.t 5)⟩,⟨some 14,none,.indexAddr 3 (.t 12) (.t 13)⟩,⟨some 15,none,.load (some 3) (.t 14)⟩,⟨some 16,none,.call (.t 11) [.t 15]⟩]) (.cond (.t 16) (.seq (.ops [⟨some 17,none,.mv (.t 5)⟩,⟨some 4,none,.mv (.t 17)⟩]) .ret) .skip)))) (.ops [⟨some 18,none,.bin .add (.t 8) (.c (.t (.int .i64 1)))⟩,⟨some 8,none,.mv (.t 18)⟩]))))))) (.seq (.ops [⟨some 4,none,.mv (.c (.t (.int .i64 (-1))))⟩]) .ret)))
theorem k_slices_IndexFunc___impl_SheetBlock_impl_SheetBlock_:comp Tryd.prog 19 (Tryd.f73.body.getD .skip)=some c_slices_IndexFunc___impl_SheetBlock_impl_SheetBlock_:=by kernel_rfl
theorem index_func (bs:List SheetBlock) (hbs:SheetBlock.OkS bs) (kind name:List UInt8) (p1 p2:Nat) (σ:Store) (h1:σ[p1]?=some (.box [.t (.str kind)])) (h2:σ[p2]?=some (.box [.t (.str name)])):ACalls Tryd.prog 73 [.t (tSheetBlockS bs),.fn (.func 74) [.ptr p1 0,.ptr p2 0]] σ fun rr σ'=>rr=.t (.int .i64 (findI (isB kind name) bs 0))∧σ'=σ:=by
 refine acalls_of Tryd.func73 (by decide +kernel) (code:=Tryd.f73.body.getD .skip) (n:=19) (c:=c_slices_IndexFunc___impl_SheetBlock_impl_SheetBlock_) (rs:=[(.tmp 4)]) rfl rfl k_slices_IndexFunc___impl_SheetBlock_impl_SheetBlock_ (by kernel_rfl) (by simp) (fun hσ=>?_)
 have hp1:=(List.getElem?_eq_some_iff.1 h1).1
 have hp2:=(List.getElem?_eq_some_iff.1 h2).1
 have y1:=hbs.1
 simp -implicitDefEqProofs only [c_slices_IndexFunc___impl_SheetBlock_impl_SheetBlock_,zh,zZ,zA,zB,zC,zD,zE,zG,zH,zI,zJ,zK,if_true,if_false,reduceCtorEq,zW,zX,zY,za,zb]
 refine loop_p [8,0,1,7] [0,1,7] (fun k:Nat=>[(8,.t (.int .i64 (k:Nat)))]) (fun k=>k≤bs.length∧findI (isB kind name) (bs.drop k) k=findI (isB kind name) bs 0) (fun k=>bs.length - k) 0 (by simp) ⟨Nat.zero_le _,rfl⟩ rfl ?_
 rintro k ⟨hk,hall⟩
 simp -implicitDefEqProofs only [keep,zh,zZ,zA,zB,zC,zD,zE,zG,zH,zI,zJ,zK,if_true,if_false,reduceCtorEq,zW,zX,zY,za,zb]
 refine cond_split (fun h1=>?_) (fun h1=>?_)
 ·obtain ⟨x,hx,hlt⟩:=at_of h1
  have hd:=drop_of hx
  have more:=i64_succ (show k<4611686018427387904 by omega)
  rw [hd] at hall
  simp -implicitDefEqProofs only [hx,zV,zd,zm,yA,zh,SheetBlock.ts,SheetBlock.vs,more,zZ,zA,zB,zC,zD,zE,zG,zH,zI,zJ,zK,if_true,if_false,reduceCtorEq,zW,zX,zY,za,zb]
  refine call_by (at_one x kind name p1 p2 _ (by assumption) (by assumption)) ?_
  rintro r σ' ⟨rfl,rfl⟩
  simp -implicitDefEqProofs only [hx,zV,zd,zm,yA,zh,SheetBlock.ts,SheetBlock.vs,more,zZ,zA,zB,zC,zD,zE,zG,zH,zI,zJ,zK,if_true,if_false,reduceCtorEq,zW,zX,zY,za,zb]
  refine cond_split (fun g1=>?_) (fun g1=>?_)
  ·rw [findI,if_pos g1] at hall
   simp -implicitDefEqProofs only [zZ,zA,zB,zC,zD,zE,zG,zH,zI,zJ,zK,if_true,if_false,reduceCtorEq,zW,zX,zY,za,zb]
   exact ret_same0 rfl ⟨by rw [← hall]; rfl,rfl⟩
  ·rw [findI,if_neg (by rw [g1]; simp)] at hall
   simp -implicitDefEqProofs only [more,zZ,zA,zB,zC,zD,zE,zG,zH,zI,zJ,zK,if_true,if_false,reduceCtorEq,zW,zX,zY,za,zb]
   first | exact lk_p0 (k+1) (by simp) (by simp) (by omega) ⟨by omega,hall⟩ rfl | exact lk_p (k+1) (by simp) (by simp) hσ rfl (by omega) ⟨by omega,hall⟩ rfl rfl | exact lk_pm (k+1) (Nat.le_refl _) (by simp) hσ rfl rfl (by omega) ⟨by omega,hall⟩ (by simp [ltE,keep,eget,V.lt]) rfl
 ·have hkk:=end_of h1 hk
  rw [hkk,List.drop_length] at hall
  simp -implicitDefEqProofs only [zZ,zA,zB,zC,zD,zE,zG,zH,zI,zJ,zK,if_true,if_false,reduceCtorEq,zW,zX,zY,za,zb]
  exact ret_same0 rfl ⟨by rw [← hall]; rfl,rfl⟩
def c__impl_Sheet__at:C:=(.seq (.ops [⟨some 3,none,.box (.t 0)⟩,⟨some 4,none,.box (.t 1)⟩,⟨some 5,none,.box (.t 2)⟩,⟨some 6,none,.mv (.c (.t (.int .i64 0)))⟩]) (.seq (.ops [⟨some 7,none,.fieldAddr 0 (.t 3)⟩,⟨some 8,none,.load none (.t 7)⟩,⟨some 9,none,.fn 74 [.t 4,.t 5]⟩,⟨some 10,none,.call (.c (.fn (.func 73) [])) [.t 8,.t 9]⟩,⟨some 6,none,.mv (.t 10)⟩]) .ret))
theorem k__impl_Sheet__at:comp Tryd.prog 11 (Tryd.f44.body.getD .skip)=some c__impl_Sheet__at:=by kernel_rfl
theorem _impl_Sheet__at (s:Sheet) (hs:s.Ok) (kind name:List UInt8)  (σ:Store):ACalls Tryd.prog 44 [.agg (s.vs),.t (.str (kind)),.t (.str (name))] σ fun rr σ'=>rr=.t (.int .i64 (blockIx s kind name))∧σ'=σ:=by
 refine acalls_of Tryd.func44 (by decide +kernel) (code:=Tryd.f44.body.getD .skip) (n:=11) (c:=c__impl_Sheet__at) (rs:=[(.tmp 6)]) rfl rfl k__impl_Sheet__at (by kernel_rfl) (by simp) (fun hσ=>?_)
 have hh:True:=trivial
 have fin:∀ {u:V} {τ:Store},u=.t (.int .i64 (blockIx s kind name))→u.lt σ.length=true→retV σ.length (fun rr σ'=>rr=.t (.int .i64 (blockIx s kind name))∧σ'=σ) (σ++τ) (some [u]):=fun h h2=>ret_same rfl hσ h2 ⟨h,rfl⟩
 have fin0:∀ {u:V},u=.t (.int .i64 (blockIx s kind name))→retV σ.length (fun rr σ'=>rr=.t (.int .i64 (blockIx s kind name))∧σ'=σ) σ (some [u]):=fun h=>ret_same0 rfl ⟨h,rfl⟩
 simp -implicitDefEqProofs only [c__impl_Sheet__at,Sheet.vs,zZ,zA,zB,zC,zD,zE,zG,zH,zI,zJ,zK,if_true,if_false,reduceCtorEq,zW,zX,zY,za,zb]
 refine call_by (by rw [List.append_nil]; exact index_func s.Blocks hs.Blocks kind name (σ.length+1) (σ.length+2) _ (q_app_get σ _ 1) (q_app_get σ _ 2)) ?_
 rintro r σ' ⟨rfl,rfl⟩
 simp -implicitDefEqProofs only [zZ,zA,zB,zC,zD,zE,zG,zH,zI,zJ,zK,if_true,if_false,reduceCtorEq,zW,zX,zY,za,zb]
 exact fin rfl rfl
def c_spec_l39Find:C:=(.seq (.ops [⟨some 3,none,.box (.t 0)⟩,⟨some 6,none,.mv (.c (.t (.int .i64 0)))⟩]) (.seq (.seq (.ops [⟨some 7,none,.mv (.c (.t (.int .i64 0)))⟩]) (.block 0 (.loop (.seq (.seq (.ops [⟨some 8,none,.mv (.t 7)⟩,⟨some 9,none,.fieldAddr 0 (.t 3)⟩,⟨some 10,none,.load none (.t 9)⟩,⟨some 11,none,.len false (.t 10)⟩,⟨some 12,none,.bin .lss (.t 8) (.t 11)⟩]) (.cond (.t 12) .skip (.exit 0))) (.seq (.block 1 (.seq (.ops [⟨some 15,none,.fieldAddr 0 (.t 3)⟩,⟨some 16,none,.load none (.t 15)⟩,⟨some 17,none,.mv (.t 7)⟩,⟨some 18,none,.indexAddr 3 (.t 16) (.t 17)⟩,⟨some 19,none,.fieldAddr 0 (.t 18)⟩,⟨some 20,none,.load none (.t 19)⟩,⟨some 21,none,.mv (.t 1)⟩,⟨some 22,none,.bin .eql (.t 20) (.t 21)⟩,⟨some 23,none,.mv (.t 22)⟩,⟨some 24,some ⟨23,true⟩,.fieldAddr 0 (.t 3)⟩,⟨some 25,some ⟨23,true⟩,.load none (.t 24)⟩,⟨some 26,some ⟨23,true⟩,.mv (.t 7)⟩,⟨some 27,some ⟨23,true⟩,.indexAddr 3 (.t 25) (.t 26)⟩,⟨some 28,some ⟨23,true⟩,.fieldAddr 1 (.t 27)⟩,⟨some 29,some ⟨23,true⟩,.load none (.t 28)⟩,⟨some 30,some ⟨23,true⟩,.mv (.t 2)⟩,⟨some 31,some ⟨23,true⟩,.bin .eql (.t 29) (.t 30)⟩,⟨some 32,none,.pick (.t 23) (.t 31) (.c (.t (.bool false)))⟩]) (.cond (.t 32) (.seq (.ops [⟨some 33,none,.mv (.t 7)⟩,⟨some 6,none,.mv (.t 33)⟩]) .ret) .skip))) (.ops [⟨some 13,none,.mv (.t 7)⟩,⟨some 14,none,.bin .add (.t 13) (.c (.t (.int .i64 1)))⟩,⟨some 7,none,.mv (.t 14)⟩])))))) (.seq (.ops [⟨some 6,none,.mv (.c (.t (.int .i64 (-1))))⟩]) .ret)))
theorem k_spec_l39Find:comp Tryd.prog 34 (Tryd.f48.body.getD .skip)=some c_spec_l39Find:=by kernel_rfl
theorem spec_l39Find (s:Sheet) (hs:s.Ok) (kind name:List UInt8)  (σ:Store):ACalls Tryd.prog 48 [.agg (s.vs),.t (.str (kind)),.t (.str (name))] σ fun rr σ'=>rr=.t (.int .i64 (blockIx s kind name))∧σ'=σ:=by
 refine acalls_of Tryd.func48 (by decide +kernel) (code:=Tryd.f48.body.getD .skip) (n:=34) (c:=c_spec_l39Find) (rs:=[(.tmp 6)]) rfl rfl k_spec_l39Find (by kernel_rfl) (by simp) (fun hσ=>?_)
 have hh:True:=trivial
 have fin:∀ {u:V} {τ:Store},u=.t (.int .i64 (blockIx s kind name))→u.lt σ.length=true→retV σ.length (fun rr σ'=>rr=.t (.int .i64 (blockIx s kind name))∧σ'=σ) (σ++τ) (some [u]):=fun h h2=>ret_same rfl hσ h2 ⟨h,rfl⟩
 have fin0:∀ {u:V},u=.t (.int .i64 (blockIx s kind name))→retV σ.length (fun rr σ'=>rr=.t (.int .i64 (blockIx s kind name))∧σ'=σ) σ (some [u]):=fun h=>ret_same0 rfl ⟨h,rfl⟩
 have y1:=hs.Blocks.1
 simp -implicitDefEqProofs only [c_spec_l39Find,Sheet.vs,zh,zZ,zA,zB,zC,zD,zE,zG,zH,zI,zJ,zK,if_true,if_false,reduceCtorEq,zW,zX,zY,za,zb]
 obtain ⟨bs,hbs⟩:∃ bs,bs=s.Blocks:=⟨_,rfl⟩
 have hbx:blockIx s kind name=findI (isB kind name) bs 0:=by rw [hbs]; rfl
 rw [← hbs] at y1 ⊢
 refine loop_s [7,1,2,3] [1,2,3] (fun k:Nat=>[(7,.t (.int .i64 (k:Nat)))]) (fun _=>σ++[.box [.t (.lst 3 (bs.map SheetBlock.ts))]]) (fun k=>k≤bs.length∧findI (isB kind name) (bs.drop k) k=blockIx s kind name) (fun k=>bs.length - k) 0 (σ.length+1) (by simp) (by omega) ⟨Nat.zero_le _,hbx.symm⟩ rfl rfl ?_
 rintro k ⟨hk,hall⟩
 simp -implicitDefEqProofs only [keep,zh,zZ,zA,zB,zC,zD,zE,zG,zH,zI,zJ,zK,if_true,if_false,reduceCtorEq,zW,zX,zY,za,zb]
 refine cond_split (fun h1=>?_) (fun h1=>?_)
 ·obtain ⟨x,hx,hlt⟩:=at_of h1
  have hd:=drop_of hx
  have more:=i64_succ (show k<4611686018427387904 by omega)
  rw [hd] at hall
  clear h1 hh
  have hh:True:=trivial
  have hy:isB kind name x=(x.Kind == kind && x.Name == name):=rfl
  simp -implicitDefEqProofs only [hx,zV,zd,zm,yA,zh,SheetBlock.ts,SheetBlock.vs,more,zZ,zA,zB,zC,zD,zE,zG,zH,zI,zJ,zK,if_true,if_false,reduceCtorEq,zW,zX,zY,za,zb]
  repeat' (first
  | ((with_reducible refine cond_known (fun h=>?_) (fun h=>?_)) <;> (replace hh:=And.intro h hh; clear h; simp -implicitDefEqProofs only [hh,cond_t,cond_f,hx,zV,zd,zm,yA,zh,SheetBlock.ts,SheetBlock.vs,more,zZ,zA,zB,zC,zD,zE,zG,zH,zI,zJ,zK,if_true,if_false,reduceCtorEq,zW,zX,zY,za,zb]))
  | (first | (refine fin (ti ?_) rfl; (try simp only [Known] at hh); rw [findI,if_pos (by rw [hy]; grind)] at hall; rw [← hall]) | (refine lk_s0 (k+1) (by simp) (by omega) rfl (by omega) ⟨by omega,?_⟩ rfl; (try simp only [Known] at hh); rw [findI,if_neg (by rw [hy]; grind)] at hall; exact hall)))
 ·have hkk:=end_of h1 hk
  rw [hkk,List.drop_length] at hall
  simp -implicitDefEqProofs only [zZ,zA,zB,zC,zD,zE,zG,zH,zI,zJ,zK,if_true,if_false,reduceCtorEq,zW,zX,zY,za,zb]
  exact fin (by rw [← hall]; rfl) rfl
def c_impl_standard:C:=(.seq (.ops [⟨some 1,none,.box (.t 0)⟩,⟨some 2,none,.new [.t (.str []),.nils]⟩]) (.seq (.drawn [.mk 0 false ⟨some 3,none,.fieldAddr 0 (.t 1)⟩ [],.mk 1 false ⟨some 4,none,.load none (.t 3)⟩ [],.mk 2 false ⟨some 5,none,.fieldAddr 3 (.t 1)⟩ [],.mk 3 false ⟨some 6,none,.load none (.t 5)⟩ [],.mk 4 true ⟨some 7,none,.append 1 16 (.c .nils) (.t 6)⟩ [⟨some 4,none,.load none (.t 3)⟩],.mk 5 false ⟨some 8,none,.build [.t (.str []),.nils] [⟨0,⟨1,.t 4⟩⟩,⟨1,⟨1,.t 7⟩⟩]⟩ [],.mk 6 false ⟨none,none,.store 2 (.t 2) (.t 8)⟩ []]) .ret))
theorem k_impl_standard:comp Tryd.prog 9 (Tryd.f27.body.getD .skip)=some c_impl_standard:=by kernel_rfl
theorem impl_standard (x:SheetRule) (hd:x.Default.length≤5) (σ:Store):ACalls Tryd.prog 27 [.agg x.vs] σ (ToLR (SheetLine.mk x.Key x.Default).ts σ):=by
 refine acalls_of Tryd.func27 (by decide +kernel) (code:=Tryd.f27.body.getD .skip) (n:=9) (c:=c_impl_standard) (rs:=[(.cell 2 (some 2))]) rfl rfl k_impl_standard (by kernel_rfl) (by simp) (fun hσ=>?_)
 have b1:x.Default.length * 16≤maxBy:=by simp only [maxBy]; omega
 have b2:x.Default.length≤9223372036854775807:=by omega
 have pre1:∀ (s:Store) o,preσ s (s++[o]):=fun s o=>⟨_,rfl⟩
 simp -implicitDefEqProofs only [c_impl_standard,SheetRule.vs,zh,b1,b2,pre1,zZ,zA,zB,zC,zD,zE,zG,zH,zI,zJ,zK,if_true,if_false,reduceCtorEq,zW,zX,zY,za,zb]
 refine fin_keep (by simp) ⟨_,_,[σ.length+2],rfl,rfl,lines_own (own_strs ?_ rfl),(wi_one _).mono (by omega) (by simp)⟩
 rw [q_app_get]; rfl
end Go.Proofs.YtnnnemgbgilfaaaDoor.W
end
section
open Go Go.Ab
set_option maxHeartbeats 2000000
namespace Go.Proofs.YtnnnemgbgilfaaaDoor.W
theorem cnt_bnd {kind:List UInt8} {ls:List SheetLine} (h:linesR kind ls=true) (p:List UInt8):cntK ls p≤10:=by
 have key:∀ k,k≤ls.length→cntK (ls.take k) p≤10:=by
  intro k
  induction k with
  | zero=>intro _; simp [cntK]
  | succ k ih =>
   intro hk
   obtain ⟨y,hy⟩:∃ y,ls[k]?=some y:=⟨ls[k],List.getElem?_eq_getElem (by omega)⟩
   have h0:=ih (by omega)
   rw [cntK_step hy]
   by_cases he:(y.Key == p)=true
   ·have h1:=List.all_eq_true.1 h (y,k) (List.mem_of_getElem? (zip_at hy))
    simp only [lineP,yB] at h1
    have h2:=h1.2
    have he':y.Key=p:=by simpa using he
    rw [he',cntK_step hy,he] at h2
    simp only [cntOk,if_true,Bool.not_eq_true',Bool.or_eq_false_iff,decide_eq_false_iff_not] at h2
    rw [he]
    simp only [if_true]
    omega
   ·rw [if_neg he]; omega
 have:=key ls.length (Nat.le_refl _)
 rwa [List.take_length] at this
theorem sum_le:∀ (L:List (List UInt8)) (a:SheetLine) (ls:List SheetLine),(L.map (cntK ls)).sum+(if a.Key∈L then 1 else 0)≤(L.map (cntK (a::ls))).sum
 | [],a,ls=>by simp
 | p::L,a,ls=>by
  have ih:=sum_le L a ls
  have hc:cntK (a::ls) p=cntK ls p+(if (a.Key == p)=true then 1 else 0):=by
   simp only [cntK,List.countP_cons]
  simp only [zu,List.sum_cons,hc]
  by_cases h1:a.Key=p
  ·have:(a.Key == p)=true:=by simp [h1]
   rw [this]; simp only [if_true]
   have:(if a.Key∈p::L then 1 else 0)≤1:=by split <;> omega
   split at ih <;> omega
  ·have h2:(a.Key == p)=false:=by simp [h1]
   have h3:(a.Key∈p::L)=(a.Key∈L):=by simp [h1]
   rw [h2]
   simp only [h3,Bool.false_eq_true,if_false]
   omega
theorem len_sum (L:List (List UInt8)):∀ ls:List SheetLine,(∀ x∈ls,x.Key∈L)→ls.length≤(L.map (cntK ls)).sum
 | [],_=>by simp
 | a::ls,h=>by
  have ih:=len_sum L ls fun x hx=>h x (by simp [hx])
  have h1:=sum_le L a ls
  rw [if_pos (h a (by simp))] at h1
  rw [List.length_cons]
  omega
theorem sum_bnd {M:Nat} {f:List UInt8→Nat} (h:∀ p,f p≤M):∀ L:List (List UInt8),(L.map f).sum≤L.length * M
 | []=>by simp
 | p::L=>by
  have:=sum_bnd h L
  have:=h p
  simp only [zu,List.sum_cons,zj,Nat.succ_mul]
  omega
theorem lines_bnd {kind:List UInt8} {ls:List SheetLine} (h:linesR kind ls=true):ls.length≤120:=by
 have h1:∀ x∈ls,x.Key∈(rulesR kind).map SheetRule.Key:=by
  intro x hx
  obtain ⟨i,hi,rfl⟩:=List.getElem_of_mem hx
  have h2:=List.all_eq_true.1 h (ls[i],i) (List.mem_of_getElem? (zip_at (List.getElem?_eq_getElem hi)))
  simp only [lineP,yB] at h2
  obtain ⟨_,r,_,_,h5,_⟩:=fits_rule h2.1.1
  obtain ⟨h6,h7⟩:=rule_in h5
  exact List.mem_map.2 ⟨r,h6,h7⟩
 have h2:=len_sum _ ls h1
 have h3:=sum_bnd (cnt_bnd h) ((rulesR kind).map SheetRule.Key)
 have h4:=(rules_small kind).1
 rw [List.length_map] at h3
 omega
def fillStep (b:SheetBlock) (r:SheetRule):SheetBlock:=if (!r.Many && (((ofR r.Key b.Lines).length:Nat):Int) == 0)=true then putR b ⟨r.Key,r.Default⟩ else b
def fillN (kind:List UInt8) (n:Nat) (b:SheetBlock):SheetBlock:=((rulesR kind).take n).foldl fillStep b
def fillB (b:SheetBlock):SheetBlock:=(rulesR b.Kind).foldl fillStep b
theorem put_len (b:SheetBlock) (x:SheetLine):(putR b x).Lines.length=b.Lines.length+1:=by
 have h:putIx b.Kind b.Lines x≤b.Lines.length:=(List.takeWhile_prefix _).length_le
 simp only [putR,zt,List.length_take,List.length_drop,zj,zk]
 omega
theorem put_ok {b:SheetBlock} {x:SheetLine} (hb:b.Ok) (hx:x.Ok) (hl:b.Lines.length<1048576):(putR b x).Ok:=by
 refine { hb with Lines:=⟨by rw [put_len]; omega,fun y hy=>?_⟩ }
 simp only [putR,List.mem_append,List.mem_singleton] at hy
 rcases hy with (hy | rfl) | hy
 ·exact hb.Lines.2 y (List.mem_of_mem_take hy)
 ·exact hx
 ·exact hb.Lines.2 y (List.mem_of_mem_drop hy)
theorem rule_line {kind:List UInt8} {r:SheetRule} (h:r∈rulesR kind):(SheetLine.mk r.Key r.Default).Ok:=by
 have hs:=List.all_eq_true.1 (rules_small kind).2 r h
 simp only [ruleSmall,yB,decide_eq_true_eq,List.all_eq_true] at hs
 obtain ⟨⟨⟨⟨m1,m2⟩,m3⟩,m4⟩,m5⟩:=hs
 exact { Key:=by simp only; omega,Words:=⟨by simp only; omega,fun w hw=>by have:=m5 w hw; omega⟩ }
theorem step_facts {kind:List UInt8} {b:SheetBlock} {r:SheetRule} (hr:r∈rulesR kind) (hb:b.Ok) (hl:b.Lines.length<1048576):(fillStep b r).Ok∧(fillStep b r).Kind=b.Kind∧(fillStep b r).Name=b.Name∧(fillStep b r).Lines.length≤b.Lines.length+1:=by
 unfold fillStep
 split
 ·exact ⟨put_ok hb (rule_line hr) hl,rfl,rfl,by rw [put_len]; omega⟩
 ·exact ⟨hb,rfl,rfl,by omega⟩
theorem fillN_step {kind:List UInt8} {n:Nat} {b:SheetBlock} {r:SheetRule} (h:(rulesR kind)[n]?=some r):fillN kind (n+1) b=fillStep (fillN kind n b) r:=by
 unfold fillN
 rw [take_of h,List.foldl_append]; rfl
theorem fillN_facts {kind:List UInt8} {b:SheetBlock} (hb:b.Ok) (hl:b.Lines.length≤120):∀ n,n≤(rulesR kind).length→(fillN kind n b).Ok∧(fillN kind n b).Kind=b.Kind∧(fillN kind n b).Name=b.Name∧(fillN kind n b).Lines.length≤120+n
 | 0,_=>⟨hb,rfl,rfl,by simpa [fillN] using hl⟩
 | n+1,hn=>by
  obtain ⟨r,hr⟩:∃ r,(rulesR kind)[n]?=some r:=⟨(rulesR kind)[n],List.getElem?_eq_getElem (by omega)⟩
  obtain ⟨h1,h2,h3,h4⟩:=fillN_facts (kind:=kind) hb hl n (by omega)
  have h5:=(rules_small kind).1
  obtain ⟨g1,g2,g3,g4⟩:=step_facts (List.mem_of_getElem? hr) h1 (by omega)
  rw [fillN_step hr]
  exact ⟨g1,g2.trans h2,g3.trans h3,by omega⟩
theorem fillB_N (b:SheetBlock):fillB b=fillN b.Kind (rulesR b.Kind).length b:=by
 rw [fillB,fillN,List.take_length]
theorem fillB_facts {b:SheetBlock} (hb:b.Ok) (hl:b.Lines.length≤120):(fillB b).Ok∧(fillB b).Kind=b.Kind∧(fillB b).Name=b.Name∧(fillB b).Lines.length≤132:=by
 have h5:=(rules_small b.Kind).1
 obtain ⟨h1,h2,h3,h4⟩:=fillN_facts (kind:=b.Kind) hb hl (rulesR b.Kind).length (Nat.le_refl _)
 rw [fillB_N]
 exact ⟨h1,h2,h3,by omega⟩
def fillS (s:Sheet):Sheet:=if sheetR s=true then ⟨s.Blocks.map fillB⟩ else ⟨[]⟩
def curB (bs:List SheetBlock) (i:Nat):List SheetBlock:=(bs.take i).map fillB++bs.drop i
theorem cur_len (bs:List SheetBlock) (i:Nat):(curB bs i).length=bs.length:=by
 simp only [curB,zt,zh,List.length_take,List.length_drop]; omega
theorem cur_at {bs:List SheetBlock} {i:Nat} {b:SheetBlock} (h:bs[i]?=some b):(curB bs i)[i]?=some b:=by
 have hi:=(List.getElem?_eq_some_iff.1 h).1
 have hl:((bs.take i).map fillB).length=i:=by simp; omega
 rw [curB,List.getElem?_append_right (by omega),hl,Nat.sub_self,List.getElem?_drop,Nat.add_zero,h]
theorem cur_step {bs:List SheetBlock} {i:Nat} {b:SheetBlock} (h:bs[i]?=some b):curB bs (i+1)=(curB bs i).set i (fillB b):=by
 have hi:=(List.getElem?_eq_some_iff.1 h).1
 have hl:((bs.take i).map fillB).length=i:=by simp; omega
 rw [curB,curB,List.set_append_right _ _ (by omega),hl,Nat.sub_self,take_of h,List.map_append,List.append_assoc,drop_of h]
 rfl
theorem cur_all (bs:List SheetBlock):curB bs bs.length=bs.map fillB:=by
 simp [curB]
theorem tObj_setB (bs:List SheetBlock) (k:Nat) (b:SheetBlock):Go.Ab.Obj.slc 3 (((bs.map SheetBlock.ts).map fun r=>r.map V.t).set k b.vs)=tObj 3 ((bs.set k b).map SheetBlock.ts):=by
 simp only [tObj,List.map_set]; rfl
theorem sheet_blocks {s:Sheet} (h:sheetR s=true):s.Blocks.length≤60∧∀ b∈s.Blocks,W.kindOk b.Kind=true∧linesR b.Kind b.Lines=true:=by
 simp only [sheetR,yB,decide_eq_true_eq] at h
 refine ⟨h.1,fun b hb=>?_⟩
 obtain ⟨i,hi,rfl⟩:=List.getElem_of_mem hb
 have h2:=List.all_eq_true.1 h.2 (s.Blocks[i],i) (List.mem_of_getElem? (zip_at (List.getElem?_eq_getElem hi)))
 simp only [sheetP,blockR,yB] at h2
 grind
theorem set_id {α:Type} {l:List α} {k:Nat} {x:α} (h:l[k]?=some x):l.set k x=l:=by
 apply List.ext_getElem?
 intro i
 by_cases hi:i=k
 ·subst hi
  rw [List.getElem?_set_self (List.getElem?_eq_some_iff.1 h).1,h]
 ·rw [List.getElem?_set_ne (fun e=>hi e.symm)]
structure Gf2 where
 i:Nat
 s:Store
theorem FO.put {n:Nat} {s:Store} {bs:List SheetBlock} {id:Nat} {k:Nat} {b:SheetBlock} (hn:n≤id) (hid:id<s.length):FO n (s.set id (tObj 3 ((bs.set k b).map SheetBlock.ts))) (bs.set k b) (.sl id bs.length 0 bs.length) :=
 .inr ⟨id,hn,by rw [List.length_set],List.getElem?_set_self hid⟩
theorem sees_fo {n:Nat} {s:Store} {bs:List SheetBlock} {v:V} (h:FO n s bs v):SeesF n s (.lst 3 (bs.map SheetBlock.ts)) v:=by
 rcases h with ⟨rfl,rfl⟩ | ⟨id,h1,rfl,h3⟩
 ·exact seesF_nils (by omega)
 ·exact seesF_rows (by omega) h1 h3 (by rw [List.length_map])
def c_spec_SheetFill:C:=(.seq (.ops [⟨some 1,none,.box (.t 0)⟩,⟨some 2,none,.new [.nils]⟩]) (.seq (.seq (.ops [⟨some 7,none,.load (some 1) (.t 1)⟩,⟨some 8,none,.call (.c (.fn (.func 11) [])) [.t 7]⟩,⟨some 9,none,.un .not (.t 8)⟩]) (.cond (.t 9) (.seq (.ops [⟨some 10,none,.build [.nils] []⟩,⟨none,none,.store 1 (.t 2) (.t 10)⟩]) .ret) .skip)) (.seq (.ops [⟨some 11,none,.load (some 1) (.t 1)⟩,⟨some 12,none,.call (.c (.fn (.func 32) [])) [.t 11]⟩,⟨some 3,none,.new [.nils]⟩,⟨none,none,.store 1 (.t 3) (.t 12)⟩]) (.seq (.seq (.ops [⟨some 4,none,.mv (.c (.t (.int .i64 0)))⟩]) (.block 0 (.loop (.seq (.seq (.ops [⟨some 13,none,.mv (.t 4)⟩,⟨some 14,none,.fieldAddr 0 (.t 3)⟩,⟨some 15,none,.load none (.t 14)⟩,⟨some 16,none,.len false (.t 15)⟩,⟨some 17,none,.bin .lss (.t 13) (.t 16)⟩]) (.cond (.t 17) .skip (.exit 0))) (.seq (.block 1 (.seq (.ops [⟨some 20,none,.fieldAddr 0 (.t 3)⟩,⟨some 21,none,.load none (.t 20)⟩,⟨some 22,none,.mv (.t 4)⟩,⟨some 23,none,.indexAddr 3 (.t 21) (.t 22)⟩,⟨some 24,none,.fieldAddr 0 (.t 23)⟩,⟨some 25,none,.load none (.t 24)⟩,⟨some 26,none,.call (.c (.fn (.func 33) [])) [.t 25]⟩,⟨some 5,none,.mv (.t 26)⟩]) (.seq (.ops [⟨some 6,none,.mv (.c (.t (.int .i64 0)))⟩]) (.block 2 (.loop (.seq (.seq (.ops [⟨some 27,none,.mv (.t 6)⟩,⟨some 28,none,.mv (.t 5)⟩,⟨some 29,none,.len false (.t 28)⟩,⟨some 30,none,.bin .lss (.t 27) (.t 29)⟩]) (.cond (.t 30) .skip (.exit 2))) (.seq (.block 3 (.seq (.drawn [.mk 0 false ⟨some 33,none,.mv (.t 5)⟩ [],.mk 1 false ⟨some 34,none,.mv (.t 6)⟩ [],.mk 2 false ⟨some 35,none,.indexAddr 4 (.t 33) (.t 34)⟩ [],.mk 3 false ⟨some 36,none,.fieldAddr 2 (.t 35)⟩ [],.mk 4 false ⟨some 37,none,.load none (.t 36)⟩ [],.mk 5 false ⟨some 38,none,.un .not (.t 37)⟩ [],.mk 6 false ⟨some 39,none,.mv (.t 38)⟩ [],.mk 7 false ⟨some 40,some ⟨39,true⟩,.fieldAddr 0 (.t 3)⟩ [],.mk 8 false ⟨some 41,some ⟨39,true⟩,.load none (.t 40)⟩ [],.mk 9 false ⟨some 42,some ⟨39,true⟩,.mv (.t 4)⟩ [],.mk 10 false ⟨some 43,some ⟨39,true⟩,.indexAddr 3 (.t 41) (.t 42)⟩ [],.mk 11 false ⟨some 44,some ⟨39,true⟩,.load (some 3) (.t 43)⟩ [],.mk 12 false ⟨some 45,some ⟨39,true⟩,.mv (.t 5)⟩ [],.mk 13 false ⟨some 46,some ⟨39,true⟩,.mv (.t 6)⟩ [],.mk 14 false ⟨some 47,some ⟨39,true⟩,.indexAddr 4 (.t 45) (.t 46)⟩ [],.mk 15 false ⟨some 48,some ⟨39,true⟩,.fieldAddr 0 (.t 47)⟩ [],.mk 16 false ⟨some 49,some ⟨39,true⟩,.load none (.t 48)⟩ [],.mk 17 false ⟨some 50,some ⟨39,true⟩,.call (.c (.fn (.func 34) [])) [.t 44,.t 49]⟩ [],.mk 18 false ⟨some 51,some ⟨39,true⟩,.len false (.t 50)⟩ [],.mk 19 false ⟨some 52,some ⟨39,true⟩,.bin .eql (.t 51) (.c (.t (.int .i64 0)))⟩ [],.mk 20 false ⟨some 53,none,.pick (.t 39) (.t 52) (.c (.t (.bool false)))⟩ []]) (.cond (.t 53) (.drawn [.mk 0 false ⟨some 54,none,.fieldAddr 0 (.t 3)⟩ [],.mk 1 false ⟨some 55,none,.load none (.t 54)⟩ [],.mk 2 false ⟨some 56,none,.mv (.t 4)⟩ [],.mk 3 false ⟨some 57,none,.fieldAddr 0 (.t 3)⟩ [],.mk 4 false ⟨some 58,none,.load none (.t 57)⟩ [],.mk 5 false ⟨some 59,none,.mv (.t 4)⟩ [],.mk 6 false ⟨some 60,none,.indexAddr 3 (.t 58) (.t 59)⟩ [],.mk 7 false ⟨some 61,none,.load (some 3) (.t 60)⟩ [],.mk 8 false ⟨some 62,none,.mv (.t 5)⟩ [],.mk 9 false ⟨some 63,none,.mv (.t 6)⟩ [],.mk 10 false ⟨some 64,none,.indexAddr 4 (.t 62) (.t 63)⟩ [],.mk 11 false ⟨some 65,none,.fieldAddr 0 (.t 64)⟩ [],.mk 12 false ⟨some 66,none,.load none (.t 65)⟩ [],.mk 13 false ⟨some 67,none,.mv (.t 5)⟩ [],.mk 14 false ⟨some 68,none,.mv (.t 6)⟩ [],.mk 15 false ⟨some 69,none,.indexAddr 4 (.t 67) (.t 68)⟩ [],.mk 16 false ⟨some 70,none,.fieldAddr 3 (.t 69)⟩ [],.mk 17 false ⟨some 71,none,.load none (.t 70)⟩ [],.mk 18 false ⟨some 72,none,.build [.t (.str []),.nils] [⟨0,⟨1,.t 66⟩⟩,⟨1,⟨1,.t 71⟩⟩]⟩ [],.mk 19 true ⟨some 73,none,.call (.c (.fn (.func 35) [])) [.t 61,.t 72]⟩ [⟨some 55,none,.load none (.t 54)⟩],.mk 20 false ⟨some 74,none,.indexAddr 3 (.t 55) (.t 56)⟩ [],.mk 21 false ⟨none,none,.store 3 (.t 74) (.t 73)⟩ []]) .skip))) (.ops [⟨some 31,none,.mv (.t 6)⟩,⟨some 32,none,.bin .add (.t 31) (.c (.t (.int .i64 1)))⟩,⟨some 6,none,.mv (.t 32)⟩])))))))) (.ops [⟨some 18,none,.mv (.t 4)⟩,⟨some 19,none,.bin .add (.t 18) (.c (.t (.int .i64 1)))⟩,⟨some 4,none,.mv (.t 19)⟩])))))) (.seq (.ops [⟨some 75,none,.load (some 1) (.t 3)⟩,⟨some 76,none,.call (.c (.fn (.func 32) [])) [.t 75]⟩,⟨none,none,.store 1 (.t 2) (.t 76)⟩]) .ret)))))
theorem k_spec_SheetFill:comp Tryd.prog 77 (Tryd.f9.body.getD .skip)=some c_spec_SheetFill:=by kernel_rfl
set_option maxHeartbeats 16000000 in
set_option maxRecDepth 20000 in
theorem specF_SheetFill0 (s:Sheet) (hs:s.Ok) (σ:Store):ACalls Tryd.prog 9 [.agg s.vs] σ fun r σ'=>r=.agg ((fillS s).ts.map .t)∧σ'=σ:=by
 refine acalls_frzL ?_
 refine acalls_of Tryd.func9 (by decide +kernel) (code:=Tryd.f9.body.getD .skip) (n:=77) (c:=c_spec_SheetFill) (rs:=[(.cell 2 (some 1))]) rfl rfl k_spec_SheetFill (by kernel_rfl) (by simp) (fun hσ=>?_)
 simp -implicitDefEqProofs only [c_spec_SheetFill,Sheet.vs,zZ,zA,zB,zC,zD,zE,zG,zH,zI,zJ,zK,if_true,if_false,reduceCtorEq,zW,zX,zY,za,zb]
 have hvs:=spec_SheetValid s hs
 simp only [Sheet.vs] at hvs
 refine call_pure (hvs _) ?_
 rcases hv:sheetR s with _ | _
 ·simp -implicitDefEqProofs only [cond_t,cond_f,Bool.not_false,zZ,zA,zB,zC,zD,zE,zG,zH,zI,zJ,zK,if_true,if_false,reduceCtorEq,zW,zX,zY,za,zb]
  refine fin_keep (by simp) ⟨_,_,rfl,rfl,?_⟩
  have:(fillS s).ts=[.lst 3 []]:=by rw [fillS,hv]; rfl
  rw [this]
  simp only [SeesFL]
  exact ⟨_,_,rfl,seesF_nils (by omega),rfl⟩
 obtain ⟨h60,hbl⟩:=sheet_blocks hv
 have hts:(fillS s).ts=[.lst 3 ((s.Blocks.map fillB).map SheetBlock.ts)]:=by rw [fillS,hv]; rfl
 simp -implicitDefEqProofs only [cond_t,cond_f,Bool.not_true,zZ,zA,zB,zC,zD,zE,zG,zH,zI,zJ,zK,if_true,if_false,reduceCtorEq,zW,zX,zY,za,zb]
 obtain ⟨bs,hbsd⟩:∃ bs,bs=s.Blocks:=⟨_,rfl⟩
 have hbs:=hs.Blocks
 rw [← hbsd] at hbs hts hbl h60 ⊢
 refine call_by (by rw [List.append_nil]; exact spec_l39CopyA bs hbs _) ?_
 rintro r s0 ⟨v0,rfl,hk0,hl0,hf0⟩
 simp only [zt,zj,zk] at hl0 hf0
 have on0:=hf0.one
 have e2:s0[σ.length+1]?=some (.box [.nils]):=hk0.box (by simp)
 have K0:Kp σ s0:=fun x hx=>by rw [hk0 x (by simp; omega),List.getElem?_append_left hx]
 simp -implicitDefEqProofs only [e2,on0,one_cells on0,zZ,zA,zB,zC,zD,zE,zG,zH,zI,zJ,zK,if_true,if_false,reduceCtorEq,zW,zX,zY,za,zb]
 obtain ⟨X,hX⟩:∃ X,X=s0.length:=⟨_,rfl⟩
 obtain ⟨B,hB⟩:∃ B,B=s0++[Go.Ab.Obj.box [v0]]:=⟨_,rfl⟩
 have hBl:B.length=X+1:=by rw [hB,hX]; simp
 have hBX:B[X]?=some (.box [v0]):=by rw [hB,hX]; simp
 have hBf:FO (σ.length+2) B bs v0:=by rw [hB]; exact (hf0.kp (Kp.app s0 _)).mono (by omega)
 have hBk:Kp σ B:=by rw [hB]; exact kp_app2 K0
 have hB2:B[σ.length+1]?=some (.box [.nils]):=by rw [hB,List.getElem?_append_left (by omega)]; exact e2
 rw [← hB,← hX]
 refine loop_g [4,2,3] [2,3] (fun g:Gf2=>[(4,.t (.int .i64 (g.i:Nat)))]) Gf2.s (fun g=>g.i≤bs.length∧Kp σ g.s∧X+1≤g.s.length∧FO (σ.length+2) g.s (curB bs g.i) v0∧g.s[X]?=some (.box [v0])∧g.s[σ.length+1]?=some (.box [.nils])) (fun g=>bs.length - g.i) ⟨0,B⟩ (by omega) ⟨Nat.zero_le _,hBk,by first | omega | (simp only; omega),by simpa [curB] using hBf,hBX,hB2⟩ rfl rfl ?_
 rintro ⟨i,s1⟩ ⟨hi,hkp,hle,hfo,eX,e2'⟩
 simp only at hi hkp hle hfo eX e2'
 have hlv:=hfo.len
 simp only [zH,cur_len] at hlv
 simp -implicitDefEqProofs only [keep,eX,hlv,on0,zZ,zA,zB,zC,zD,zE,zG,zH,zI,zJ,zK,if_true,if_false,reduceCtorEq,zW,zX,zY,za,zb]
 refine cond_split (fun h1=>?_) (fun h1=>?_)
 ·obtain ⟨b,hb,hlt⟩:=at_of h1
  have hbo:=hbs.2 b (List.mem_of_getElem? hb)
  obtain ⟨hkd,hln⟩:=hbl b (List.mem_of_getElem? hb)
  have hl120:=lines_bnd hln
  have more:=i64_succ (show i<4611686018427387904 by omega)
  obtain ⟨id,hidn,hve,hobj⟩:=hfo.at (by intro e; have:=cur_len bs i; rw [e] at this; simp at this; omega)
  rw [cur_len] at hve
  subst hve
  have hrl:(((curB bs i).map SheetBlock.ts).map fun r=>r.map V.t).length=bs.length:=by rw [List.length_map,List.length_map,cur_len]
  have hri:=block_row (cur_at hb)
  have kx:((i:Nat):Int)<((bs.length:Nat):Int):=by omega
  simp -implicitDefEqProofs only [eX,hobj,hrl,hri,kx,ze,SheetBlock.vs,zV,zd,zm,yA,zh,zZ,zA,zB,zC,zD,zE,zG,zH,zI,zJ,zK,if_true,if_false,reduceCtorEq,zW,zX,zY,za,zb]
  refine call_pure (spec_SheetRules b.Kind _) ?_
  obtain ⟨hn12,hsm⟩:=rules_small b.Kind
  simp -implicitDefEqProofs only [tSheetRuleS,zZ,zA,zB,zC,zD,zE,zG,zH,zI,zJ,zK,if_true,if_false,reduceCtorEq,zW,zX,zY,za,zb]
  refine loop_g [6,2,3,4,5] [2,3,4,5] (fun g:Gf2=>[(6,.t (.int .i64 (g.i:Nat)))]) Gf2.s (fun g=>g.i≤(rulesR b.Kind).length∧Kp σ g.s∧X+1≤g.s.length∧FO (σ.length+2) g.s ((curB bs i).set i (fillN b.Kind g.i b)) (.sl id bs.length 0 bs.length)∧g.s[X]?=some (.box [.sl id bs.length 0 bs.length])∧g.s[σ.length+1]?=some (.box [.nils])) (fun g=>(rulesR b.Kind).length - g.i) ⟨0,s1⟩ (by omega) ⟨Nat.zero_le _,hkp,hle,by rw [show fillN b.Kind 0 b=b from rfl,set_id (cur_at hb)]; exact hfo,eX,e2'⟩ rfl rfl ?_
  rintro ⟨j,s2⟩ ⟨hj,hkp2,hle2,hfo2,eX2,e22⟩
  simp only at hj hkp2 hle2 hfo2 eX2 e22
  have hcl:((curB bs i).set i (fillN b.Kind j b)).length=bs.length:=by rw [List.length_set,cur_len]
  simp -implicitDefEqProofs only [keep,zh,tSheetRuleS,zZ,zA,zB,zC,zD,zE,zG,zH,zI,zJ,zK,if_true,if_false,reduceCtorEq,zW,zX,zY,za,zb]
  refine cond_split (fun h3=>?_) (fun h3=>?_)
  ·obtain ⟨r,hr,hltr⟩:=at_of h3
   have more2:=i64_succ (show j<4611686018427387904 by omega)
   obtain ⟨hcok,hck,hcn,hcll⟩:=fillN_facts (kind:=b.Kind) hbo hl120 j hj
   obtain ⟨c,hcd⟩:∃ c,c=fillN b.Kind j b:=⟨_,rfl⟩
   rw [← hcd] at hcok hck hcn hcll hfo2 hcl
   have hst:fillN b.Kind (j+1) b=fillStep c r:=by rw [fillN_step hr,hcd]
   have hci:((curB bs i).set i c)[i]?=some c:=List.getElem?_set_self (by rw [cur_len]; omega)
   obtain ⟨id2,hidn2,hve2,hobj2⟩:=hfo2.at (by intro e; rw [e] at hcl; simp at hcl; omega)
   rw [hcl] at hve2
   simp only [V.sl.injEq,and_true,true_and] at hve2
   subst hve2
   have hid2l:=(List.getElem?_eq_some_iff.1 hobj2).1
   have hrl2:((((curB bs i).set i c).map SheetBlock.ts).map fun r=>r.map V.t).length=bs.length:=by rw [List.length_map,List.length_map,hcl]
   have hri2:=block_row hci
   have nxt:∀ s3:Store,Kp σ s3→X+1≤s3.length→FO (σ.length+2) s3 ((curB bs i).set i (fillStep c r)) (.sl id bs.length 0 bs.length)→s3[X]?=some (.box [.sl id bs.length 0 bs.length])→s3[σ.length+1]?=some (.box [.nils])→_:=fun s3 a1 a2 a3 a4 a5=>(⟨by omega,a1,a2,by rw [hst]; exact a3,a4,a5⟩:j+1≤(rulesR b.Kind).length∧Kp σ s3∧X+1≤s3.length∧FO (σ.length+2) s3 ((curB bs i).set i (fillN b.Kind (j+1) b)) (.sl id bs.length 0 bs.length)∧s3[X]?=some (.box [.sl id bs.length 0 bs.length])∧s3[σ.length+1]?=some (.box [.nils]))
   rcases hm:r.Many with _ | _
   ·simp -implicitDefEqProofs only [hm,hr,eX2,hobj2,hrl2,hri2,kx,ze,SheetBlock.vs,SheetRule.ts,cond_t,cond_f,Bool.not_false,Bool.not_true,zV,zd,zm,yA,zh,zZ,zA,zB,zC,zD,zE,zG,zH,zI,zJ,zK,if_true,if_false,reduceCtorEq,zW,zX,zY,za,zb]
    have hof:=spec_l41Of c hcok r.Key
    simp only [SheetBlock.vs] at hof
    refine call_pure (hof _) ?_
    rcases hz:((((ofR r.Key c.Lines).length:Nat):Int) == 0) with _ | _
    ·have hfs:fillStep c r=c:=by unfold fillStep; rw [hm,hz]; rfl
     simp -implicitDefEqProofs only [hz,cond_t,cond_f,zh,more2,tSheetLineS,zZ,zA,zB,zC,zD,zE,zG,zH,zI,zJ,zK,if_true,if_false,reduceCtorEq,zW,zX,zY,za,zb]
     exact lk_g ⟨j+1,s2⟩ (by simp only; omega) (nxt s2 hkp2 hle2 (by rw [hfs]; exact hfo2) eX2 e22) (by first | omega | (simp only; omega)) rfl rfl
    ·have hfs:fillStep c r=putR c ⟨r.Key,r.Default⟩:=by unfold fillStep; rw [hm,hz]; rfl
     simp -implicitDefEqProofs only [hz,cond_t,cond_f,zh,tSheetLineS,zZ,zA,zB,zC,zD,zE,zG,zH,zI,zJ,zK,if_true,if_false,reduceCtorEq,zW,zX,zY,za,zb]
     simp -implicitDefEqProofs only [hm,hr,eX2,hobj2,hrl2,hri2,kx,ze,SheetBlock.vs,SheetRule.ts,cond_t,cond_f,Bool.not_false,Bool.not_true,zV,zd,zm,yA,zh,zZ,zA,zB,zC,zD,zE,zG,zH,zI,zJ,zK,if_true,if_false,reduceCtorEq,zW,zX,zY,za,zb]
     have hpl:=spec_l39PutLine c hcok ⟨r.Key,r.Default⟩ (rule_line (List.mem_of_getElem? hr))
     simp only [SheetBlock.vs,SheetLine.vs] at hpl
     refine call_pure (hpl _) ?_
     simp -implicitDefEqProofs only [hm,hr,eX2,hobj2,hrl2,hri2,kx,ze,SheetBlock.vs,SheetRule.ts,cond_t,cond_f,Bool.not_false,Bool.not_true,zV,zd,zm,yA,zh,more2,zZ,zA,zB,zC,zD,zE,zG,zH,zI,zJ,zK,if_true,if_false,reduceCtorEq,zW,zX,zY,za,zb]
     have ns1:∀ o:Go.Ab.Obj,∀ x c',s2[x]?=some (Go.Ab.Obj.box c')→(s2.set id o)[x]?=some (Go.Ab.Obj.box c'):=fun o x c' hx=>by
      rw [List.getElem?_set_ne (fun e=>by rw [e] at hobj2; rw [hobj2] at hx; simp [tObj] at hx)]; exact hx
     have ko:=tObj_setB ((curB bs i).set i c) i (putR c ⟨r.Key,r.Default⟩)
     simp only [SheetBlock.vs] at ko
     rw [ko]
     refine lk_g ⟨j+1,s2.set id (tObj 3 ((((curB bs i).set i c).set i (putR c ⟨r.Key,r.Default⟩)).map SheetBlock.ts))⟩ (by simp only; omega) (nxt _ (hkp2.set (by omega)) (by rw [List.length_set]; exact hle2) ?_ (ns1 _ _ _ eX2) (ns1 _ _ _ e22)) (by rw [List.length_set]; omega) rfl rfl
     rw [hfs]
     have:=FO.put (n:=σ.length+2) (bs:=(curB bs i).set i c) (k:=i) (b:=putR c ⟨r.Key,r.Default⟩) hidn2 hid2l
     rw [hcl] at this
     rwa [List.set_set] at this ⊢
   ·have hfs:fillStep c r=c:=by unfold fillStep; rw [hm]; rfl
    simp -implicitDefEqProofs only [hm,hr,eX2,hobj2,hrl2,hri2,kx,ze,SheetBlock.vs,SheetRule.ts,cond_t,cond_f,Bool.not_false,Bool.not_true,zV,zd,zm,yA,zh,zZ,zA,zB,zC,zD,zE,zG,zH,zI,zJ,zK,if_true,if_false,reduceCtorEq,zW,zX,zY,za,zb]
    simp -implicitDefEqProofs only [cond_t,cond_f,more2,zZ,zA,zB,zC,zD,zE,zG,zH,zI,zJ,zK,if_true,if_false,reduceCtorEq,zW,zX,zY,za,zb]
    exact lk_g ⟨j+1,s2⟩ (by simp only; omega) (nxt s2 hkp2 hle2 (by rw [hfs]; exact hfo2) eX2 e22) (by first | omega | (simp only; omega)) rfl rfl
  ·have hjj:=end_of h3 hj
   subst hjj
   simp -implicitDefEqProofs only [more,zZ,zA,zB,zC,zD,zE,zG,zH,zI,zJ,zK,if_true,if_false,reduceCtorEq,zW,zX,zY,za,zb]
   refine lk_g ⟨i+1,s2⟩ (by simp only; omega) ⟨by simp only; omega,hkp2,hle2,by rw [cur_step hb,fillB_N]; exact hfo2,eX2,e22⟩ (by first | omega | (simp only; omega)) rfl rfl
 ·have hii:=end_of h1 hi
  rw [hii,cur_all] at hfo
  have hfok:SheetBlock.OkS (bs.map fillB):=⟨by rw [List.length_map]; omega,fun y hy=>by
   obtain ⟨b,hb,rfl⟩:=List.mem_map.1 hy
   exact (fillB_facts (hbs.2 b hb) (lines_bnd (hbl b hb).2)).1⟩
  simp -implicitDefEqProofs only [eX,on0,one_cells on0,zZ,zA,zB,zC,zD,zE,zG,zH,zI,zJ,zK,if_true,if_false,reduceCtorEq,zW,zX,zY,za,zb]
  refine call_by (by rw [List.append_nil]; exact spec_l39CopyB (bs.map fillB) hfok v0 _ _ hfo) ?_
  rintro r s3 ⟨v3,rfl,hk3,hl3,hf3⟩
  have on3:=hf3.one
  have e23:s3[σ.length+1]?=some (.box [.nils]):=hk3.box e2'
  have e2t:∀ o:Go.Ab.Obj,(s3.set (σ.length+1) o)[σ.length+1]?=some o:=fun o=>List.getElem?_set_self (by omega)
  simp -implicitDefEqProofs only [e23,e2t,on3,one_cells on3,zZ,zA,zB,zC,zD,zE,zG,zH,zI,zJ,zK,if_true,if_false,reduceCtorEq,zW,zX,zY,za,zb]
  have K3:Kp σ s3:=fun x hx=>by rw [hk3 x (by omega)]; exact hkp x hx
  refine fin_keep (by simp; omega) ⟨_,_,kp_split (K3.set (by omega)) (by simp; omega),rfl,?_⟩
  rw [hts]
  simp only [SeesFL]
  exact ⟨_,_,rfl,sees_fo ((hf3.mono (by omega)).set e23),rfl⟩
end Go.Proofs.YtnnnemgbgilfaaaDoor.W
end
section
open Go Go.Ab
set_option maxHeartbeats 2000000
namespace Go.Proofs.YtnnnemgbgilfaaaDoor.W
theorem pw_of {α:Type} {f:α→Int}:∀ {l:List α},(∀ k x y,l[k]?=some x→l[k+1]?=some y→f x≤f y)→l.Pairwise (fun a b=>f a≤f b)
 | [],_=>List.Pairwise.nil
 | a::l,h=>by
  have ih:=pw_of (l:=l) (f:=f) fun k x y h1 h2=>h (k+1) x y (by simpa using h1) (by simpa using h2)
  refine List.Pairwise.cons (fun y hy=>?_) ih
  cases l with
  | nil=>cases hy
  | cons b l =>
   have hab:=h 0 a b rfl rfl
   rcases List.mem_cons.1 hy with rfl | hy
   ·exact hab
   ·have:=(List.pairwise_cons.1 ih).1 y hy
    omega
def ixAll (l:List SheetRule):Bool:=l.zipIdx.all fun q=>decide (findI (keyIs q.1.Key) l 0=((q.2:Nat):Int))
theorem ix_all (kind:List UInt8):ixAll (rulesR kind)=true :=
 rulesR_cases (P:=fun l=>ixAll l=true) kind rfl rfl rfl rfl
theorem ix_rule {kind:List UInt8} {j:Nat} {r:SheetRule} (h:(rulesR kind)[j]?=some r):ruleIx kind r.Key=(j:Nat):=by
 have:=List.all_eq_true.1 (ix_all kind) (r,j) (List.mem_of_getElem? (zip_at h))
 simpa [ruleIx] using this
theorem key_inj {kind:List UInt8} {i j:Nat} {r t:SheetRule} (h:(rulesR kind)[i]?=some r) (k:(rulesR kind)[j]?=some t) (e:r.Key=t.Key):i=j:=by
 have h1:=ix_rule h
 have h2:=ix_rule k
 rw [e] at h1
 omega
theorem lines_key {kind:List UInt8} {ls:List SheetLine} (h:linesR kind ls=true) {x:SheetLine} (hx:x∈ls):∃ (i:Nat) (r:SheetRule),(rulesR kind)[i]?=some r∧r.Key=x.Key:=by
 obtain ⟨i,hi,rfl⟩:=List.getElem_of_mem hx
 have h2:=List.all_eq_true.1 h (ls[i],i) (List.mem_of_getElem? (zip_at (List.getElem?_eq_getElem hi)))
 simp only [lineP,yB] at h2
 obtain ⟨j,r,h3,h4,h5,_⟩:=fits_rule h2.1.1
 exact ⟨j,r,h3,(rule_in h5).2⟩
theorem lines_pw {kind:List UInt8} {ls:List SheetLine} (h:linesR kind ls=true):ls.Pairwise (fun a b=>ruleIx kind a.Key≤ruleIx kind b.Key):=by
 refine pw_of (f:=fun a:SheetLine=>ruleIx kind a.Key) fun k x y hx hy=>?_
 have h2:=List.all_eq_true.1 h (y,k+1) (List.mem_of_getElem? (zip_at hy))
 simp only [lineP,yB] at h2
 have h3:=h2.1.2
 rw [prevL_some (y:=x) (by simpa using hx) (by omega)] at h3
 simp only [lineLess,Bool.or_eq_true,decide_eq_true_eq,yB,beq_iff_eq] at h3
 omega
theorem flat_congr {α β:Type} {f g:α→List β}:∀ {l:List α},(∀ x∈l,f x=g x)→l.flatMap f=l.flatMap g
 | [],_=>rfl
 | a::l,h=>by
  rw [List.flatMap_cons,List.flatMap_cons,h a (by simp),flat_congr fun x hx=>h x (by simp [hx])]
theorem flat_nil {α β:Type} {f:α→List β} {l:List α} (h:∀ x∈l,f x=[]):l.flatMap f=[]:=by
 rw [flat_congr (g:=fun _=>[]) h]
 simp
theorem by_keys {kind:List UInt8}:∀ {ls:List SheetLine},(∀ x∈ls,∃ (i:Nat) (r:SheetRule),(rulesR kind)[i]?=some r∧r.Key=x.Key)→ls.Pairwise (fun a b=>ruleIx kind a.Key≤ruleIx kind b.Key)→(rulesR kind).flatMap (fun r=>ofR r.Key ls)=ls
 | [],_,_=>flat_nil fun _ _=>rfl
 | a::ls,h,hp=>by
  obtain ⟨h1,h2⟩:=List.pairwise_cons.1 hp
  have ih:=by_keys (kind:=kind) (ls:=ls) (fun x hx=>h x (by simp [hx])) h2
  obtain ⟨i,r,hr,hk⟩:=h a (by simp)
  have hia:ruleIx kind a.Key=(i:Nat):=by rw [← hk]; exact ix_rule hr
  have hsp:=split_at hr
  have low:∀ t∈(rulesR kind).take i,ofR t.Key (a::ls)=[]∧ofR t.Key ls=[]:=by
   intro t ht
   obtain ⟨j,hj,rfl⟩:=List.getElem_of_mem ht
   have hji:j<i:=by simp at hj; omega
   have hjr:(rulesR kind)[j]?=some ((rulesR kind).take i)[j]:=by
    have:=List.getElem?_eq_getElem hj
    rwa [List.getElem?_take_of_lt hji] at this
   have hix:=ix_rule hjr
   have e2:ofR ((rulesR kind).take i)[j].Key ls=[]:=by
    rw [ofR,List.filter_eq_nil_iff]
    intro x hx he
    have hxk:x.Key=((rulesR kind).take i)[j].Key:=by simpa using he
    have:=h1 x hx
    rw [hxk] at this
    omega
   refine ⟨?_,e2⟩
   rw [ofR,List.filter_cons_of_neg]
   ·exact e2
   ·intro he
    have hxk:a.Key=((rulesR kind).take i)[j].Key:=by simpa using he
    rw [hxk] at hia
    omega
  have high:∀ t∈(rulesR kind).drop (i+1),ofR t.Key (a::ls)=ofR t.Key ls:=by
   intro t ht
   obtain ⟨j,hj,rfl⟩:=List.getElem_of_mem ht
   have hjr:(rulesR kind)[i+1+j]?=some ((rulesR kind).drop (i+1))[j]:=by
    have:=List.getElem?_eq_getElem hj
    rwa [List.getElem?_drop] at this
   have hix:=ix_rule hjr
   rw [ofR,List.filter_cons_of_neg]
   ·rfl
   ·intro he
    have hxk:a.Key=((rulesR kind).drop (i+1))[j].Key:=by simpa using he
    rw [hxk] at hia
    omega
  have hrr:ofR r.Key (a::ls)=a::ofR r.Key ls:=by
   rw [ofR,List.filter_cons_of_pos (by simp [hk])]; rfl
  rw [hsp] at ih ⊢
  rw [List.flatMap_append,List.flatMap_cons,flat_nil fun t ht=>(low t ht).2,List.nil_append] at ih
  rw [List.flatMap_append,List.flatMap_cons,flat_nil fun t ht=>(low t ht).1,hrr,flat_congr (g:=fun t=>ofR t.Key ls) high,List.nil_append,List.cons_append,ih]
def stdOr (x:SheetRule) (l:List SheetLine):List SheetLine:=if (((l.length:Nat):Int) == 0 && !x.Many)=true then [⟨x.Key,x.Default⟩] else l
def fillL (kind:List UInt8) (ls:List SheetLine):List SheetLine:=(rulesR kind).flatMap fun r=>stdOr r (ofR r.Key ls)
theorem of_key {key:List UInt8} {ls:List SheetLine} {x:SheetLine} (h:x∈ofR key ls):x.Key=key:=by
 have:=(List.mem_filter.1 h).2
 simpa using this
theorem std_key {r:SheetRule} {ls:List SheetLine} {x:SheetLine} (h:x∈stdOr r (ofR r.Key ls)):x.Key=r.Key:=by
 unfold stdOr at h
 split at h
 ·obtain rfl:=List.mem_singleton.1 h; rfl
 ·exact of_key h
theorem of_none {key:List UInt8} {ls:List SheetLine} (h:∀ x∈ls,x.Key≠key):ofR key ls=[]:=by
 rw [ofR,List.filter_eq_nil_iff]
 intro x hx he
 exact h x hx (by simpa using he)
theorem of_all {key:List UInt8} {ls:List SheetLine} (h:∀ x∈ls,x.Key=key):ofR key ls=ls:=by
 rw [ofR,List.filter_eq_self]
 intro x hx
 simp [h x hx]
theorem of_app (key:List UInt8) (a b:List SheetLine):ofR key (a++b)=ofR key a++ofR key b:=List.filter_append ..
theorem take_all {α:Type} {p:α→Bool}:∀ {P Q:List α},(∀ x∈P,p x=true)→(∀ x∈Q,p x=false)→(P++Q).takeWhile p=P
 | [],[],_,_=>rfl
 | [],q::Q,_,h=>by simp [h q (by simp)]
 | a::P,Q,h,k=>by
  rw [List.cons_append,List.takeWhile_cons,h a (by simp),if_pos rfl,take_all (fun x hx=>h x (by simp [hx])) k]
theorem fill_law {b:SheetBlock} (hl:linesR b.Kind b.Lines=true):∀ n,n≤(rulesR b.Kind).length→(fillN b.Kind n b).Kind=b.Kind∧(fillN b.Kind n b).Lines=((rulesR b.Kind).take n).flatMap (fun r=>stdOr r (ofR r.Key b.Lines))++((rulesR b.Kind).drop n).flatMap (fun r=>ofR r.Key b.Lines)
 | 0,_=>⟨rfl,by
  show b.Lines=_
  simp only [List.take_zero,List.flatMap_nil,zr,List.drop_zero]
  exact (by_keys (fun x hx=>lines_key hl hx) (lines_pw hl)).symm⟩
 | n+1,hn=>by
  obtain ⟨hk,ih⟩:=fill_law hl n (by omega)
  obtain ⟨r,hr⟩:∃ r,(rulesR b.Kind)[n]?=some r:=⟨(rulesR b.Kind)[n],List.getElem?_eq_getElem (by omega)⟩
  rw [fillN_step hr,take_of hr,List.flatMap_append,List.flatMap_cons,List.flatMap_nil,List.append_nil]
  rw [drop_of hr,List.flatMap_cons] at ih
  obtain ⟨c,hc⟩:∃ c,c=fillN b.Kind n b:=⟨_,rfl⟩
  rw [← hc] at hk ih ⊢
  obtain ⟨P,hP⟩:∃ P,P=((rulesR b.Kind).take n).flatMap (fun r=>stdOr r (ofR r.Key b.Lines)):=⟨_,rfl⟩
  obtain ⟨Q,hQ⟩:∃ Q,Q=((rulesR b.Kind).drop (n+1)).flatMap (fun r=>ofR r.Key b.Lines):=⟨_,rfl⟩
  rw [← hP,← hQ] at ih
  rw [← hP,← hQ]
  have pk:∀ x∈P,ruleIx b.Kind x.Key<(n:Nat):=by
   intro x hx
   rw [hP] at hx
   obtain ⟨t,ht,hxt⟩:=List.mem_flatMap.1 hx
   obtain ⟨j,hj,rfl⟩:=List.getElem_of_mem ht
   have hji:j<n:=by simp at hj; omega
   have hjr:(rulesR b.Kind)[j]?=some ((rulesR b.Kind).take n)[j]:=by
    have:=List.getElem?_eq_getElem hj
    rwa [List.getElem?_take_of_lt hji] at this
   have hix:=ix_rule hjr
   rw [std_key hxt]
   omega
  have qk:∀ x∈Q,(n:Nat)<ruleIx b.Kind x.Key:=by
   intro x hx
   rw [hQ] at hx
   obtain ⟨t,ht,hxt⟩:=List.mem_flatMap.1 hx
   obtain ⟨j,hj,rfl⟩:=List.getElem_of_mem ht
   have hjr:(rulesR b.Kind)[n+1+j]?=some ((rulesR b.Kind).drop (n+1))[j]:=by
    have:=List.getElem?_eq_getElem hj
    rwa [List.getElem?_drop] at this
   have hix:=ix_rule hjr
   rw [of_key hxt]
   omega
  have hrx:=ix_rule hr
  have hof:ofR r.Key c.Lines=ofR r.Key b.Lines:=by
   rw [ih,of_app,of_app,of_none (fun x hx e=>by have:=pk x hx; rw [e] at this; omega),of_none (ls:=Q) (fun x hx e=>by have:=qk x hx; rw [e] at this; omega),List.nil_append,List.append_nil]
   exact of_all fun x hx=>of_key hx
  unfold fillStep stdOr
  rw [hof]
  by_cases h0:(ofR r.Key b.Lines).length=0
  ·have h0':ofR r.Key b.Lines=[]:=List.length_eq_zero_iff.1 h0
   rcases hm:r.Many with _ | _
   ·rw [if_pos (by simp [h0]),if_pos (by simp [h0])]
    refine ⟨hk,?_⟩
    rw [h0',List.nil_append] at ih
    have hix:putIx c.Kind c.Lines ⟨r.Key,r.Default⟩=P.length:=by
     rw [putIx,ih,hk]
     rw [take_all]
     ·intro x hx
      have:=pk x hx
      simp only [lineLess,hrx,Bool.or_eq_true,decide_eq_true_eq]
      exact .inl this
     ·intro x hx
      have:=qk x hx
      have n1:¬ (ruleIx b.Kind x.Key<((n:Nat):Int)):=by omega
      have n2:(ruleIx b.Kind x.Key == ((n:Nat):Int))=false:=by simp; omega
      simp only [lineLess,hrx,n1,n2,decide_false,Bool.false_and,Bool.or_false]
    show c.Lines.take (putIx c.Kind c.Lines _)++[_]++c.Lines.drop (putIx c.Kind c.Lines _)=_
    rw [hix,ih,List.take_left,List.drop_left]
   ·rw [if_neg (by simp),if_neg (by simp)]
    exact ⟨hk,by rw [ih,List.append_assoc]⟩
  ·have h1:((((ofR r.Key b.Lines).length:Nat):Int) == 0)=false:=by simp; intro e; exact h0 (by rw [e]; rfl)
   rw [h1]
   simp only [Bool.and_false,Bool.false_and,Bool.false_eq_true,if_false]
   exact ⟨hk,by rw [ih,List.append_assoc]⟩
theorem fillB_law {b:SheetBlock} (hl:linesR b.Kind b.Lines=true):fillB b=⟨b.Kind,b.Name,fillL b.Kind b.Lines⟩:=by
 have h:=fill_law hl (rulesR b.Kind).length (Nat.le_refl _)
 rw [← fillB_N,List.take_length,List.drop_length,List.flatMap_nil,List.append_nil] at h
 have hn:∀ (l:List SheetRule) (c:SheetBlock),(l.foldl fillStep c).Name=c.Name:=by
  intro l
  induction l with
  | nil=>intro c; rfl
  | cons r l ih =>
   intro c
   rw [List.foldl_cons,ih]
   unfold fillStep
   split <;> rfl
 have h3:(fillB b).Name=b.Name:=hn _ _
 rw [show fillB b=⟨(fillB b).Kind,(fillB b).Name,(fillB b).Lines⟩ from rfl,h.1,h3,h.2]
 rfl
end Go.Proofs.YtnnnemgbgilfaaaDoor.W
end
