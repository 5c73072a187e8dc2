/- How a sheet is trimmed: words, copies. Conditions: none. -/
/- How a sheet is trimmed, line by line. Conditions: none. -/
/- How a sheet is trimmed: which lines go. Conditions: none. -/
import Derived.Test.YtnnnemgbgilfaaaDoorSheetFillA2
import Derived.Test.YtnnnemgbgilfaaaDoorSheetValid
set_option linter.unusedSimpArgs false
set_option linter.unusedVariables false
set_option linter.defProp false
open Bool renaming and_eq_true → yB
open Go.Ab renaming eget → zC, env0 → zD, isNilP → zI, isNilS → zJ, lenSl → zH, lenStr → zG, nat_nn → zV, opv → zA, opvs → zB, putAt → zK, setD → zE
open List renaming getElem?_map → zm, length_append → zt, length_cons → zj, length_map → zh, length_nil → zk, length_set → zl, map_cons → zu, map_nil → zx
open Nat renaming reduceAdd → zb, reduceEqDiff → zX, reduceLeDiff → zW, reduceMul → za, reduceSub → zY, zero_add → ze, zero_le → zd
open Option renaming map_some → yA
section
open Go Go.Ab
set_option maxHeartbeats 2000000
namespace Go.Proofs.YtnnnemgbgilfaaaDoor.W
theorem wless_irr:∀ a:List (List UInt8),wless a a=false:=fun a=>by
 rw [wless_eq,(wcmp_zero a a).2 rfl]; rfl
theorem wless_tri:∀ a b:List (List UInt8),wless a b=false→wless b a=false→a=b
 | [],[],_,_=>rfl
 | [],b::bs,h,_=>by simp [wless] at h
 | a::l,[],_,h=>by simp [wless] at h
 | a::l,b::bs,h,k=>by
  simp only [wless] at h k
  by_cases e:a=b
  ·subst e
   simp only [bne_self_eq_false,Bool.false_eq_true,if_false,ne_eq,not_true_eq_false,beq_self_eq_true,if_true] at h k
   rw [wless_tri l bs h k]
  ·have e':b≠a:=fun h=>e h.symm
   have e1:(a == b)=false:=by simp [e]
   have e2:(b == a)=false:=by simp [e']
   simp only [bne,e1,e2,Bool.not_false,if_true,ne_eq,e,e',not_false_eq_true,Bool.false_eq_true,if_false] at h k
   rcases less_tri a b with h1 | h1 | h1
   ·rw [h] at h1; cases h1
   ·exact (e h1).elim
   ·rw [k] at h1; cases h1
theorem words_eq (a b:List (List UInt8)):(!wless a b && !wless b a)=(a == b):=by
 by_cases e:a=b
 ·subst e; simp [wless_irr]
 ·have e1:(a == b)=false:=by simp [e]
  rw [e1]
  cases h:wless a b
  ·cases k:wless b a
   ·exact (e (wless_tri a b h k)).elim
   ·rfl
  ·rfl
def c_spec_l39Words:C:=(.seq (.ops [⟨some 4,none,.mv (.c (.t (.bool false)))⟩]) (.seq (.ops [⟨some 5,none,.mv (.t 0)⟩,⟨some 6,none,.mv (.t 1)⟩,⟨some 7,none,.call (.c (.fn (.func 65) [])) [.t 5,.t 6]⟩,⟨some 8,none,.un .not (.t 7)⟩,⟨some 9,none,.mv (.t 8)⟩,⟨some 10,some ⟨9,true⟩,.mv (.t 1)⟩,⟨some 11,some ⟨9,true⟩,.mv (.t 0)⟩,⟨some 12,some ⟨9,true⟩,.call (.c (.fn (.func 65) [])) [.t 10,.t 11]⟩,⟨some 13,some ⟨9,true⟩,.un .not (.t 12)⟩,⟨some 14,none,.pick (.t 9) (.t 13) (.c (.t (.bool false)))⟩,⟨some 4,none,.mv (.t 14)⟩]) .ret))
theorem k_spec_l39Words:comp Tryd.prog 15 (Tryd.f37.body.getD .skip)=some c_spec_l39Words:=by kernel_rfl
theorem spec_l39Words (a b:List (List UInt8)) (ha:StrsOk a) (hb:StrsOk b) (σ:Store):ACalls Tryd.prog 37 [.t (tStrs a),.t (tStrs b)] σ fun r σ'=>r=.t (.bool (a == b))∧σ'=σ:=by
 refine acalls_of Tryd.func37 (by decide +kernel) (code:=Tryd.f37.body.getD .skip) (n:=15) (c:=c_spec_l39Words) (rs:=[(.tmp 4)]) rfl rfl k_spec_l39Words (by kernel_rfl) (by simp) (fun hσ=>?_)
 have h1:=spec_l39Less a b ha hb
 have h2:=spec_l39Less b a hb ha
 simp only [tStrs] at h1 h2
 simp -implicitDefEqProofs only [c_spec_l39Words,zZ,zA,zB,zC,zD,zE,zG,zH,zI,zJ,zK,if_true,if_false,reduceCtorEq,zW,zX,zY,za,zb]
 first | refine call_pure (h1 _) ?_ | refine call_pureQ (fun _=>h1 _) ?_
 simp -implicitDefEqProofs only [zZ,zA,zB,zC,zD,zE,zG,zH,zI,zJ,zK,if_true,if_false,reduceCtorEq,zW,zX,zY,za,zb]
 rw [← words_eq]
 rcases hw:wless a b with _ | _
 ·simp -implicitDefEqProofs only [hw,cond_t,cond_f,Bool.not_false,Bool.not_true,zZ,zA,zB,zC,zD,zE,zG,zH,zI,zJ,zK,if_true,if_false,reduceCtorEq,zW,zX,zY,za,zb]
  try first | refine call_pure (h2 _) ?_ | refine call_pureQ (fun _=>h2 _) ?_
  simp -implicitDefEqProofs only [hw,cond_t,cond_f,Bool.not_false,Bool.not_true,zZ,zA,zB,zC,zD,zE,zG,zH,zI,zJ,zK,if_true,if_false,reduceCtorEq,zW,zX,zY,za,zb]
  exact fin_keep (by simp) ⟨by simp [mkRes,hw],rfl⟩
 ·simp -implicitDefEqProofs only [hw,cond_t,cond_f,Bool.not_false,Bool.not_true,zZ,zA,zB,zC,zD,zE,zG,zH,zI,zJ,zK,if_true,if_false,reduceCtorEq,zW,zX,zY,za,zb]
  exact fin_keep (by simp) ⟨by simp [mkRes,hw],rfl⟩
def keepL (kind:List UInt8) (l:SheetLine):Bool:=match ruleOf kind l.Key with
 | some r=>r.Many || !(r.Default == l.Words)
 | none=>true
def trimL (kind:List UInt8) (ls:List SheetLine):List SheetLine:=ls.filter (keepL kind)
def trimB (b:SheetBlock):SheetBlock:=⟨b.Kind,b.Name,trimL b.Kind b.Lines⟩
def trimS (s:Sheet):Sheet:=if sheetR s=true then ⟨s.Blocks.map trimB⟩ else ⟨[]⟩
theorem trimL_step {kind:List UInt8} {ls:List SheetLine} {k:Nat} {x:SheetLine} (h:ls[k]?=some x):trimL kind (ls.take (k+1))=trimL kind (ls.take k)++(if keepL kind x=true then [x] else []):=by
 rw [take_of h,trimL,List.filter_append,List.filter_cons,List.filter_nil]
 rfl
theorem trimL_le (kind:List UInt8) (ls:List SheetLine) (k:Nat):(trimL kind (ls.take k)).length≤k:=Nat.le_trans (List.length_filter_le _ _) (by simp; omega)
theorem trimB_ok {b:SheetBlock} (h:b.Ok):(trimB b).Ok :=
 { h with Lines:=⟨Nat.le_trans (List.length_filter_le _ _) h.Lines.1,fun y hy=>h.Lines.2 y (List.mem_filter.1 hy).1⟩ }
def curF (f:SheetBlock→SheetBlock) (bs:List SheetBlock) (i:Nat):List SheetBlock:=(bs.take i).map f++bs.drop i
section
variable {f:SheetBlock→SheetBlock} {bs:List SheetBlock} {i:Nat} {b:SheetBlock}
theorem curF_len (f:SheetBlock→SheetBlock) (bs:List SheetBlock) (i:Nat):(curF f bs i).length=bs.length:=by
 simp only [curF,zt,zh,List.length_take,List.length_drop]; omega
theorem curF_step (h:bs[i]?=some b):curF f bs (i+1)=(curF f bs i).set i (f b):=by
 have hi:=(List.getElem?_eq_some_iff.1 h).1
 have hl:((bs.take i).map f).length=i:=by simp; omega
 rw [curF,curF,List.set_append_right _ _ (by omega),hl,Nat.sub_self,take_of h,List.map_append,List.append_assoc,drop_of h]
 rfl
theorem curF_all:curF f bs bs.length=bs.map f:=by
 simp [curF]
theorem curF_zero:curF f bs 0=bs:=by
 simp [curF]
end
def GR (N:Nat) (s:Store) (b:SheetBlock) (r:List V):Prop:=∃ lv,r=[.t (.str b.Kind),.t (.str b.Name),lv]∧(lv=.t (tSheetLineS b.Lines)∨(b.Lines=[]∧(lv=.nils∨lv=.rows 2 []))∨∃ id,N≤id∧lv=.sl id b.Lines.length 0 b.Lines.length∧s[id]?=some (.slc 2 (rowsV b.Lines)))
theorem GR.kp {N:Nat} {s s':Store} {b:SheetBlock} {r:List V} (h:GR N s b r) (k:∀ j,N≤j→j<s.length→s'[j]?=s[j]?):GR N s' b r:=by
 obtain ⟨lv,h1,h2⟩:=h
 refine ⟨lv,h1,h2.imp id fun h2=>h2.imp id ?_⟩
 rintro ⟨id,g1,g2,g3⟩
 exact ⟨id,g1,g2,by rw [k id g1 (List.getElem?_eq_some_iff.1 g3).1]; exact g3⟩
theorem GR.sees {N:Nat} {s:Store} {b:SheetBlock} {r:List V} (h:GR N s b r):∃ lv,r=[.t (.str b.Kind),.t (.str b.Name),lv]∧Go.Ab.one lv=true∧∀ τ,SeesAs (s++τ) [.t (tSheetLineS b.Lines)] [lv]:=by
 obtain ⟨lv,h1,rfl | ⟨h2,h3⟩ | ⟨id,g1,rfl,g3⟩⟩:=h
 ·refine ⟨_,h1,rfl,fun τ=>⟨_,_,rfl,.inl ⟨_,rfl,?_⟩,rfl⟩⟩
  simp only [Sees]
  exact ⟨rowsV b.Lines,by simp [Go.Ab.rowsOf],line_sees _ b.Lines,by omega⟩
 ·refine ⟨lv,h1,by rcases h3 with rfl | rfl <;> rfl,fun τ=>⟨_,_,rfl,.inl ⟨_,rfl,?_⟩,rfl⟩⟩
  rw [tSheetLineS,h2]
  simp only [Sees]
  exact ⟨[],by rcases h3 with rfl | rfl <;> simp [Go.Ab.rowsOf],by simp [SeesRows],by omega⟩
 ·refine ⟨_,h1,rfl,fun τ=>⟨_,_,rfl,.inl ⟨_,rfl,?_⟩,rfl⟩⟩
  have g4:=(Kp.app s τ).box g3
  have key:∀ R:List (List V),R.length=b.Lines.length→(s++τ)[id]?=some (.slc 2 R)→Go.Ab.rowsOf (s++τ) 2 (.sl id b.Lines.length 0 b.Lines.length)=some R:=fun R hl h=>by
   rw [← hl]
   simp [Go.Ab.rowsOf,h]
  simp only [Sees]
  exact ⟨rowsV b.Lines,key _ (by simp) g4,line_sees _ b.Lines,by omega⟩
def GO (n N:Nat) (s:Store) (bs:List SheetBlock) (v:V) (rs:List (List V)):Prop:=(bs=[]∧v=.nils)∨∃ id,n≤id∧id<N∧v=.sl id bs.length 0 bs.length∧s[id]?=some (.slc 3 rs)∧rs.length=bs.length∧∀ (k:Nat) (b:SheetBlock) (r:List V),bs[k]?=some b→rs[k]?=some r→GR N s b r
theorem GO.one {n N:Nat} {s:Store} {bs:List SheetBlock} {v:V} {rs:List (List V)} (h:GO n N s bs v rs):Go.Ab.one v=true:=by
 rcases h with ⟨_,rfl⟩ | ⟨id,_,_,rfl,_⟩ <;> rfl
theorem GO.len {n N:Nat} {s:Store} {bs:List SheetBlock} {v:V} {rs:List (List V)} (h:GO n N s bs v rs):lenSl v=some bs.length:=by
 rcases h with ⟨rfl,rfl⟩ | ⟨id,_,_,rfl,_⟩ <;> rfl
theorem spec_l39BlockG (b:SheetBlock) (hb:b.Ok) (lv:V) (σ:Store) (ho:Go.Ab.one lv=true) (hs:∀ τ,SeesAs (σ++τ) [.t (tSheetLineS b.Lines)] [lv]):ACalls Tryd.prog 60 [.agg [.t (.str b.Kind),.t (.str b.Name),lv]] σ fun r σ'=>r=.agg b.vs∧σ'=σ:=by
 refine acalls_of Tryd.func60 (by decide +kernel) (code:=Tryd.f60.body.getD .skip) (n:=8) (c:=c_spec_l39Block) (rs:=[(.cell 2 (some 3))]) rfl rfl k_spec_l39Block (by kernel_rfl) (by simp) (fun hσ=>?_)
 simp -implicitDefEqProofs only [c_spec_l39Block,SheetBlock.vs,ho,one_cells ho,zZ,zA,zB,zC,zD,zE,zG,zH,zI,zJ,zK,if_true,if_false,reduceCtorEq,zW,zX,zY,za,zb]
 refine call_pure (acalls_frzT (acalls_to (fun σ=>spec_l39LinesO b.Lines hb.Lines σ) (hs _))) ?_
 simp -implicitDefEqProofs only [tSheetLineS,zZ,zA,zB,zC,zD,zE,zG,zH,zI,zJ,zK,if_true,if_false,reduceCtorEq,zW,zX,zY,za,zb]
 exact ret_same rfl hσ rfl ⟨rfl,rfl⟩
set_option maxHeartbeats 8000000 in
theorem spec_l39CopyG (bs:List SheetBlock) (hbs:SheetBlock.OkS bs) (u:V) (n N:Nat) (rs:List (List V)) (σ:Store) (hu:GO n N σ bs u rs):ACalls Tryd.prog 32 [.agg [u]] σ fun r σ'=>∃ v,r=.agg [v]∧Kp σ σ'∧σ.length≤σ'.length∧FO σ.length σ' bs v:=by
 refine acalls_of Tryd.func32 (by decide +kernel) (code:=Tryd.f32.body.getD .skip) (n:=25) (c:=c_spec_l39Copy) (rs:=[(.cell 2 (some 1))]) rfl rfl k_spec_l39Copy (by kernel_rfl) (by simp) (fun hσ=>?_)
 have y1:=hbs.1
 have hlu:=hu.len
 simp only [zH] at hlu
 have hou:=hu.one
 simp -implicitDefEqProofs only [c_spec_l39Copy,hlu,hou,one_cells hou,zh,zZ,zA,zB,zC,zD,zE,zG,zH,zI,zJ,zK,if_true,if_false,reduceCtorEq,zW,zX,zY,za,zb]
 refine loop_g [4,1,2,3] [1,2,3] (fun g:Gc2=>[(4,.t (.int .i64 (g.k:Nat)))]) Gc2.s (fun g=>g.k≤bs.length∧Kp σ g.s∧σ.length+3≤g.s.length∧FO (σ.length+3) g.s (bs.take g.k) g.v∧g.s[σ.length]?=some (.box [u])∧g.s[σ.length+1]?=some (.box [.nils])∧g.s[σ.length+2]?=some (.box [g.v])) (fun g=>bs.length - g.k) ⟨0,.nils,σ++[.box [u],.box [.nils],.box [.nils]]⟩ (by simp) ⟨Nat.zero_le _,Kp.app _ _,by simp,.inl ⟨rfl,rfl⟩,by simp,by simp,by simp⟩ rfl rfl ?_
 rintro ⟨k,v,s⟩ ⟨hk,hkp,hle,hfo,e1,e2,e3⟩
 simp only at hk hkp hle hfo e1 e2 e3
 have hone:=hfo.one
 simp -implicitDefEqProofs only [hlu,hou,one_cells hou,keep,e1,zh,zZ,zA,zB,zC,zD,zE,zG,zH,zI,zJ,zK,if_true,if_false,reduceCtorEq,zW,zX,zY,za,zb]
 refine cond_split (fun h1=>?_) (fun h1=>?_)
 ·obtain ⟨x,hx,hlt⟩:=at_of h1
  have more:=i64_succ (show k<4611686018427387904 by omega)
  have hxo:=hbs.2 x (List.mem_of_getElem? hx)
  have htl:(bs.take k).length=k:=by rw [List.length_take]; omega
  have htk:bs.take (k+1)=bs.take k++[x]:=take_of hx
  obtain ⟨idu,_,_,hue,huo,hrlu,hgr⟩:∃ id,n≤id∧id<N∧u=.sl id bs.length 0 bs.length∧σ[id]?=some (.slc 3 rs)∧rs.length=bs.length∧∀ (k:Nat) (b:SheetBlock) (r:List V),bs[k]?=some b→rs[k]?=some r→GR N σ b r:=by
   rcases hu with ⟨h0,_⟩ | h
   ·rw [h0] at hx; cases hx
   ·exact h
  have hau:=hkp.box huo
  have kx:((k:Nat):Int)<((bs.length:Nat):Int):=by omega
  obtain ⟨r,hrk⟩:∃ r,rs[k]?=some r:=⟨rs[k],List.getElem?_eq_getElem (by omega)⟩
  obtain ⟨lv,rfl,olv,slv⟩:=((hgr k x _ hx hrk).kp (s':=s) fun j _ hj=>hkp j hj).sees
  have hat:=And.intro hue (And.intro hau (And.intro hrlu (And.intro kx (And.intro hrk olv))))
  have c3:0<3:=by omega
  simp -implicitDefEqProofs only [e1,e2,e3,hone,hx,hat,c3,zV,zd,zm,yA,zh,SheetBlock.ts,SheetBlock.vs,zZ,zA,zB,zC,zD,zE,zG,zH,zI,zJ,zK,if_true,if_false,reduceCtorEq,zW,zX,zY,za,zb]
  have hbk:=spec_l39BlockG x hxo lv s olv slv
  simp only [SheetBlock.vs] at hbk
  refine call_pure hbk ?_
  have hrow:∀ (s':Store),rowsOf s' 3 (.rows 3 [[.t (.str x.Kind),.t (.str x.Name),.t (.lst 2 (x.Lines.map SheetLine.ts))]])=some [[.t (.str x.Kind),.t (.str x.Name),.t (.lst 2 (x.Lines.map SheetLine.ts))]]:=fun s'=>rowsOf_rows rfl
  simp -implicitDefEqProofs only [e1,e2,e3,hone,c3,hrow,more,zZ,zA,zB,zC,zD,zE,zG,zH,zI,zJ,zK,if_true,if_false,reduceCtorEq,zW,zX,zY,za,zb]
  have e3t:∀ (t:Store) (o:Go.Ab.Obj),σ.length+2<t.length→(t.set (σ.length+2) o)[σ.length+2]?=some o:=fun t o h=>List.getElem?_set_self h
  rcases hfo with ⟨h0,rfl⟩ | ⟨id,h3,rfl,h4⟩
  ·have b1:1 * 56≤maxBy:=by decide
   have b2:1≤9223372036854775807:=by decide
   have e3x:∀ o:Go.Ab.Obj,(s++[o])[σ.length+2]?=some (.box [.nils]):=fun o=>by rw [List.getElem?_append_left (by omega)]; exact e3
   simp -implicitDefEqProofs only [e3,e3x,more,zj,zk,b1,b2,zZ,zA,zB,zC,zD,zE,zG,zH,zI,zJ,zK,if_true,if_false,reduceCtorEq,zW,zX,zY,za,zb]
   refine ⟨by omega,lk_g ⟨k+1,.sl s.length 1 0 1,(s++[Go.Ab.Obj.slc 3 [x.vs]]).set (σ.length+2) (.box [.sl s.length 1 0 1])⟩ (by simp only; omega) ⟨by simp only; omega,(kp_app2 hkp).set (by omega),by simp; omega,.inr ⟨s.length,hle,by rw [htk,h0]; rfl,?_⟩,?_,?_,?_⟩ (by simp; omega) rfl rfl⟩
   ·simp only
    rw [htk,h0,List.getElem?_set_ne (by omega),List.getElem?_append_right (by omega),Nat.sub_self]; rfl
   ·simp only
    rw [List.getElem?_set_ne (by omega),List.getElem?_append_left (by omega)]; first | exact e1 | rw [e1,hat.1]
   ·simp only
    rw [List.getElem?_set_ne (by omega),List.getElem?_append_left (by omega)]; exact e2
   ·exact List.getElem?_set_self (by simp; omega)
  ·have h4':s[id]?=some (.slc 3 (((bs.take k).map SheetBlock.ts).map fun r=>r.map V.t)):=h4
   have hidl:=(List.getElem?_eq_some_iff.1 h4').1
   have hrl:(((bs.take k).map SheetBlock.ts).map fun r=>r.map V.t).length=(bs.take k).length:=by rw [List.length_map,List.length_map]
   have b1:((bs.take k).length+1) * 56≤maxBy:=by rw [htl]; simp only [maxBy]; omega
   have b2:(bs.take k).length+1≤9223372036854775807:=by rw [htl]; omega
   have e3x:∀ o:Go.Ab.Obj,(s.set id o)[σ.length+2]?=some (.box [.sl id (bs.take k).length 0 (bs.take k).length]):=fun o=>by rw [List.getElem?_set_ne (by omega)]; exact e3
   try simp -implicitDefEqProofs only [h4',e3,e3x,hrl,more,zj,zk,b1,b2,zZ,zA,zB,zC,zD,zE,zG,zH,zI,zJ,zK,if_true,if_false,reduceCtorEq,zW,zX,zY,za,zb]
   refine ⟨by omega,by rw [htl]; omega,lk_g ⟨k+1,.sl id ((bs.take k).length+1) 0 ((bs.take k).length+1),(s.set id (Go.Ab.Obj.slc 3 ((((bs.take k).map SheetBlock.ts).map fun r=>r.map V.t)++[x.vs]))).set (σ.length+2) (.box [.sl id ((bs.take k).length+1) 0 ((bs.take k).length+1)])⟩ (by simp only; omega) ⟨by simp only; omega,(hkp.set (by omega)).set (by omega),by simp; omega,.inr ⟨id,h3,by rw [htk]; simp,?_⟩,?_,?_,?_⟩ (by simp; omega) rfl rfl⟩
   ·simp only
    rw [htk,List.getElem?_set_ne (by omega),List.getElem?_set_self hidl,tObj_app]
   ·simp only
    rw [List.getElem?_set_ne (by omega),List.getElem?_set_ne (by omega)]; first | exact e1 | rw [e1,hat.1]
   ·simp only
    rw [List.getElem?_set_ne (by omega),List.getElem?_set_ne (by omega)]; exact e2
   ·exact List.getElem?_set_self (by simp; omega)
 ·have hkk:=end_of h1 hk
  rw [hkk,List.take_length] at hfo
  have e2t:∀ o:Go.Ab.Obj,(s.set (σ.length+1) o)[σ.length+1]?=some o:=fun o=>List.getElem?_set_self (by omega)
  simp -implicitDefEqProofs only [e1,e2,e3,e2t,hone,one_cells hone,zZ,zA,zB,zC,zD,zE,zG,zH,zI,zJ,zK,if_true,if_false,reduceCtorEq,zW,zX,zY,za,zb]
  exact fin_keep (by simp; omega) ⟨v,rfl,hkp.set (by omega),by simp; omega,(hfo.set e2).mono (by omega)⟩
end Go.Proofs.YtnnnemgbgilfaaaDoor.W
end
section
open Go Go.Ab
set_option maxHeartbeats 2000000
namespace Go.Proofs.YtnnnemgbgilfaaaDoor.W
theorem sees_fo2 {n:Nat} {s:Store} {bs:List SheetBlock} {v:V} (h:FO n s bs v):SeesF n s (.lst 3 (bs.map SheetBlock.ts)) v:=by
 rcases h with ⟨rfl,rfl⟩ | ⟨id,h1,rfl,h3⟩
 ·exact seesF_nils (by omega)
 ·exact seesF_rows (by omega) h1 h3 (by rw [List.length_map])
theorem sheet_blocks2 {s:Sheet} (h:sheetR s=true):s.Blocks.length≤60∧∀ b∈s.Blocks,kindOk b.Kind=true∧linesR b.Kind b.Lines=true:=by
 simp only [sheetR,yB,decide_eq_true_eq] at h
 refine ⟨h.1,fun b hb=>?_⟩
 obtain ⟨i,hi,rfl⟩:=List.getElem_of_mem hb
 have h2:=List.all_eq_true.1 h.2 (s.Blocks[i],i) (List.mem_of_getElem? (zip_at (List.getElem?_eq_getElem hi)))
 simp only [sheetP,blockR,yB] at h2
 exact ⟨h2.1.1.1,h2.1.2⟩
theorem line_rule {kind:List UInt8} {ls:List SheetLine} (h:linesR kind ls=true) {k:Nat} {x:SheetLine} (hx:ls[k]?=some x):∃ (j:Nat) (r:SheetRule),(rulesR kind)[j]?=some r∧ruleIx kind x.Key=(j:Nat)∧ruleOf kind x.Key=some r:=by
 have h2:=List.all_eq_true.1 h (x,k) (List.mem_of_getElem? (zip_at hx))
 simp only [lineP,yB] at h2
 obtain ⟨j,r,h3,h4,h5,_⟩:=fits_rule h2.1.1
 exact ⟨j,r,h3,h4,h5⟩
theorem ovl_lit (s:Store) (n:Nat):OVl s n [] (.sl s.length 0 0 0) (s++[.slc n []]) :=
 ⟨by simp,Kp.app _ _,.inr ⟨s.length,Nat.le_refl _,rfl,by simp⟩⟩
theorem rule_strs {kind:List UInt8} {r:SheetRule} (h:r∈rulesR kind):StrsOk r.Default:=by
 have hs:=List.all_eq_true.1 (rules_small kind).2 r h
 simp only [ruleSmall,yB,decide_eq_true_eq,List.all_eq_true] at hs
 obtain ⟨⟨⟨⟨m1,m2⟩,m3⟩,m4⟩,m5⟩:=hs
 exact ⟨by omega,fun w hw=>by have:=m5 w hw; omega⟩
structure Gt where
 i:Nat
 s:Store
 rs:List (List V)
theorem go_of {n X:Nat} {s:Store} {bs:List SheetBlock} {v w:V} (h:FO n s bs v) (hX:s[X]?=some (.box [w])) (hl:s.length=X+1):GO n X s bs v ((bs.map SheetBlock.ts).map fun r=>r.map V.t):=by
 rcases h with h | ⟨id,h1,h2,h3⟩
 ·exact .inl h
 ·have hid:=(List.getElem?_eq_some_iff.1 h3).1
  have hne:id≠X:=fun e=>by rw [e,hX] at h3; cases h3
  refine .inr ⟨id,h1,by omega,h2,h3,by simp,fun k b r hb hr=>?_⟩
  rw [block_row hb] at hr
  obtain rfl:=Option.some.inj hr
  exact ⟨_,rfl,.inl rfl⟩
def c_spec_SheetTrim:C:=(.seq (.ops [⟨some 1,none,.box (.t 0)⟩,⟨some 2,none,.new [.nils]⟩]) (.seq (.seq (.ops [⟨some 9,none,.load (some 1) (.t 1)⟩,⟨some 10,none,.call (.c (.fn (.func 11) [])) [.t 9]⟩,⟨some 11,none,.un .not (.t 10)⟩]) (.cond (.t 11) (.seq (.ops [⟨some 12,none,.build [.nils] []⟩,⟨none,none,.store 1 (.t 2) (.t 12)⟩]) .ret) .skip)) (.seq (.ops [⟨some 13,none,.load (some 1) (.t 1)⟩,⟨some 14,none,.call (.c (.fn (.func 32) [])) [.t 13]⟩,⟨some 3,none,.new [.nils]⟩,⟨none,none,.store 1 (.t 3) (.t 14)⟩]) (.seq (.seq (.ops [⟨some 4,none,.mv (.c (.t (.int .i64 0)))⟩]) (.block 0 (.loop (.seq (.seq (.ops [⟨some 15,none,.mv (.t 4)⟩,⟨some 16,none,.fieldAddr 0 (.t 3)⟩,⟨some 17,none,.load none (.t 16)⟩,⟨some 18,none,.len false (.t 17)⟩,⟨some 19,none,.bin .lss (.t 15) (.t 18)⟩]) (.cond (.t 19) .skip (.exit 0))) (.seq (.block 1 (.seq (.ops [⟨some 22,none,.fieldAddr 0 (.t 3)⟩,⟨some 23,none,.load none (.t 22)⟩,⟨some 24,none,.mv (.t 4)⟩,⟨some 25,none,.indexAddr 3 (.t 23) (.t 24)⟩,⟨some 26,none,.load (some 3) (.t 25)⟩,⟨some 5,none,.new [.t (.str []),.t (.str []),.nils]⟩,⟨none,none,.store 3 (.t 5) (.t 26)⟩]) (.seq (.ops [⟨some 27,none,.lit none 2 0 [.t (.str []),.nils] []⟩,⟨some 6,none,.mv (.t 27)⟩]) (.seq (.seq (.ops [⟨some 7,none,.mv (.c (.t (.int .i64 0)))⟩]) (.block 2 (.loop (.seq (.seq (.ops [⟨some 28,none,.mv (.t 7)⟩,⟨some 29,none,.fieldAddr 2 (.t 5)⟩,⟨some 30,none,.load none (.t 29)⟩,⟨some 31,none,.len false (.t 30)⟩,⟨some 32,none,.bin .lss (.t 28) (.t 31)⟩]) (.cond (.t 32) .skip (.exit 2))) (.seq (.block 3 (.seq (.drawnP 8 [.t (.str []),.nils,.t (.bool false),.nils] [.mk 0 false ⟨some 35,none,.fieldAddr 0 (.t 5)⟩ [],.mk 1 false ⟨some 36,none,.load none (.t 35)⟩ [],.mk 3 false ⟨some 38,none,.fieldAddr 0 (.t 5)⟩ [],.mk 4 false ⟨some 39,none,.load none (.t 38)⟩ [],.mk 5 false ⟨some 40,none,.fieldAddr 2 (.t 5)⟩ [],.mk 6 false ⟨some 41,none,.load none (.t 40)⟩ [],.mk 7 false ⟨some 42,none,.mv (.t 7)⟩ [],.mk 8 false ⟨some 43,none,.indexAddr 2 (.t 41) (.t 42)⟩ [],.mk 9 false ⟨some 44,none,.fieldAddr 0 (.t 43)⟩ [],.mk 10 false ⟨some 45,none,.load none (.t 44)⟩ [],.mk 2 true ⟨some 37,none,.call (.c (.fn (.func 33) [])) [.t 36]⟩ [⟨some 8,none,.newP [.t (.str []),.nils,.t (.bool false),.nils]⟩,⟨some 39,none,.load none (.t 38)⟩,⟨some 41,none,.load none (.t 40)⟩,⟨some 43,none,.indexAddr 2 (.t 41) (.t 42)⟩,⟨some 45,none,.load none (.t 44)⟩],.mk 11 true ⟨some 46,none,.call (.c (.fn (.func 36) [])) [.t 39,.t 45]⟩ [⟨some 8,none,.newP [.t (.str []),.nils,.t (.bool false),.nils]⟩],.mk 12 false ⟨some 47,none,.indexAddr 4 (.t 37) (.t 46)⟩ [],.mk 13 false ⟨some 48,none,.load (some 4) (.t 47)⟩ [],.mk 15 false ⟨none,none,.store 4 (.t 8) (.t 48)⟩ []]) (.seq (.drawn [.mk 0 false ⟨some 49,none,.fieldAddr 2 (.t 8)⟩ [],.mk 1 false ⟨some 50,none,.load none (.t 49)⟩ [],.mk 2 false ⟨some 51,none,.mv (.t 50)⟩ [],.mk 3 false ⟨some 52,some ⟨51,false⟩,.fieldAddr 3 (.t 8)⟩ [],.mk 4 false ⟨some 53,some ⟨51,false⟩,.load none (.t 52)⟩ [],.mk 5 false ⟨some 54,some ⟨51,false⟩,.fieldAddr 2 (.t 5)⟩ [],.mk 6 false ⟨some 55,some ⟨51,false⟩,.load none (.t 54)⟩ [],.mk 7 false ⟨some 56,some ⟨51,false⟩,.mv (.t 7)⟩ [],.mk 8 false ⟨some 57,some ⟨51,false⟩,.indexAddr 2 (.t 55) (.t 56)⟩ [],.mk 9 false ⟨some 58,some ⟨51,false⟩,.fieldAddr 1 (.t 57)⟩ [],.mk 10 false ⟨some 59,some ⟨51,false⟩,.load none (.t 58)⟩ [],.mk 11 false ⟨some 60,some ⟨51,false⟩,.call (.c (.fn (.func 37) [])) [.t 53,.t 59]⟩ [],.mk 12 false ⟨some 61,some ⟨51,false⟩,.un .not (.t 60)⟩ [],.mk 13 false ⟨some 62,none,.pick (.t 51) (.c (.t (.bool true))) (.t 61)⟩ []]) (.cond (.t 62) (.ops [⟨some 63,none,.mv (.t 6)⟩,⟨some 64,none,.fieldAddr 2 (.t 5)⟩,⟨some 65,none,.load none (.t 64)⟩,⟨some 66,none,.mv (.t 7)⟩,⟨some 67,none,.indexAddr 2 (.t 65) (.t 66)⟩,⟨some 68,none,.load (some 2) (.t 67)⟩,⟨some 69,none,.lit none 2 1 [.t (.str []),.nils] [⟨0,.t 68⟩]⟩,⟨some 70,none,.append 2 40 (.t 63) (.t 69)⟩,⟨some 6,none,.mv (.t 70)⟩]) .skip)))) (.ops [⟨some 33,none,.mv (.t 7)⟩,⟨some 34,none,.bin .add (.t 33) (.c (.t (.int .i64 1)))⟩,⟨some 7,none,.mv (.t 34)⟩])))))) (.ops [⟨some 71,none,.fieldAddr 0 (.t 3)⟩,⟨some 72,none,.load none (.t 71)⟩,⟨some 73,none,.mv (.t 4)⟩,⟨some 74,none,.mv (.t 6)⟩,⟨some 75,none,.indexAddr 3 (.t 72) (.t 73)⟩,⟨some 76,none,.fieldAddr 2 (.t 75)⟩,⟨none,none,.store 1 (.t 76) (.t 74)⟩]))))) (.ops [⟨some 20,none,.mv (.t 4)⟩,⟨some 21,none,.bin .add (.t 20) (.c (.t (.int .i64 1)))⟩,⟨some 4,none,.mv (.t 21)⟩])))))) (.seq (.ops [⟨some 77,none,.load (some 1) (.t 3)⟩,⟨some 78,none,.call (.c (.fn (.func 32) [])) [.t 77]⟩,⟨none,none,.store 1 (.t 2) (.t 78)⟩]) .ret)))))
theorem k_spec_SheetTrim:comp Tryd.prog 79 (Tryd.f10.body.getD .skip)=some c_spec_SheetTrim:=by kernel_rfl
set_option maxHeartbeats 16000000 in
set_option maxRecDepth 20000 in
theorem specF_SheetTrim0 (s:Sheet) (hs:s.Ok) (σ:Store):ACalls Tryd.prog 10 [.agg s.vs] σ fun r σ'=>r=.agg ((trimS s).ts.map .t)∧σ'=σ:=by
 refine acalls_frzL ?_
 refine acalls_of Tryd.func10 (by decide +kernel) (code:=Tryd.f10.body.getD .skip) (n:=79) (c:=c_spec_SheetTrim) (rs:=[(.cell 2 (some 1))]) rfl rfl k_spec_SheetTrim (by kernel_rfl) (by simp) (fun hσ=>?_)
 simp -implicitDefEqProofs only [c_spec_SheetTrim,Sheet.vs,zZ,zA,zB,zC,zD,zE,zG,zH,zI,zJ,zK,if_true,if_false,reduceCtorEq,zW,zX,zY,za,zb]
 have hvs:=spec_SheetValid s hs
 simp only [Sheet.vs] at hvs
 refine call_pure (hvs _) ?_
 rcases hv:sheetR s with _ | _
 ·simp -implicitDefEqProofs only [cond_t,cond_f,Bool.not_false,zZ,zA,zB,zC,zD,zE,zG,zH,zI,zJ,zK,if_true,if_false,reduceCtorEq,zW,zX,zY,za,zb]
  refine fin_keep (by simp) ⟨_,_,rfl,rfl,?_⟩
  have:(trimS s).ts=[.lst 3 []]:=by rw [trimS,hv]; rfl
  rw [this]
  simp only [SeesFL]
  exact ⟨_,_,rfl,seesF_nils (by omega),rfl⟩
 obtain ⟨h60,hbl⟩:=sheet_blocks2 hv
 have hts:(trimS s).ts=[.lst 3 ((s.Blocks.map trimB).map SheetBlock.ts)]:=by rw [trimS,hv]; rfl
 simp -implicitDefEqProofs only [cond_t,cond_f,Bool.not_true,zZ,zA,zB,zC,zD,zE,zG,zH,zI,zJ,zK,if_true,if_false,reduceCtorEq,zW,zX,zY,za,zb]
 obtain ⟨bs,hbsd⟩:∃ bs,bs=s.Blocks:=⟨_,rfl⟩
 have hbs:=hs.Blocks
 rw [← hbsd] at hbs hts hbl h60 ⊢
 refine call_by (by rw [List.append_nil]; exact spec_l39CopyA bs hbs _) ?_
 rintro r s0 ⟨v0,rfl,hk0,hl0,hf0⟩
 simp only [zt,zj,zk] at hl0 hf0
 have on0:=hf0.one
 have e2:s0[σ.length+1]?=some (.box [.nils]):=hk0.box (by simp)
 have K0:Kp σ s0:=fun x hx=>by rw [hk0 x (by simp; omega),List.getElem?_append_left hx]
 simp -implicitDefEqProofs only [e2,on0,one_cells on0,zZ,zA,zB,zC,zD,zE,zG,zH,zI,zJ,zK,if_true,if_false,reduceCtorEq,zW,zX,zY,za,zb]
 obtain ⟨X,hX⟩:∃ X,X=s0.length:=⟨_,rfl⟩
 obtain ⟨B,hB⟩:∃ B,B=s0++[Go.Ab.Obj.box [v0]]:=⟨_,rfl⟩
 have hBl:B.length=X+1:=by rw [hB,hX]; simp
 have hBX:B[X]?=some (.box [v0]):=by rw [hB,hX]; simp
 have hBf:FO (σ.length+2) B bs v0:=by rw [hB]; exact (hf0.kp (Kp.app s0 _)).mono (by omega)
 have hBk:Kp σ B:=by rw [hB]; exact kp_app2 K0
 have hB2:B[σ.length+1]?=some (.box [.nils]):=by rw [hB,List.getElem?_append_left (by omega)]; exact e2
 rw [← hB,← hX]
 refine loop_g [4,2,3] [2,3] (fun g:Gt=>[(4,.t (.int .i64 (g.i:Nat)))]) Gt.s (fun g=>g.i≤bs.length∧Kp σ g.s∧X+1≤g.s.length∧GO (σ.length+2) X g.s (curF trimB bs g.i) v0 g.rs∧(∀ k b,g.i≤k→bs[k]?=some b→v0≠.nils→g.rs[k]?=some b.vs)∧g.s[X]?=some (.box [v0])∧g.s[σ.length+1]?=some (.box [.nils])) (fun g=>bs.length - g.i) ⟨0,B,(bs.map SheetBlock.ts).map fun r=>r.map V.t⟩ (by omega) ⟨Nat.zero_le _,hBk,by first | omega | (simp only; omega),by simp only; rw [curF_zero]; exact go_of hBf hBX hBl,fun k b _ hb _=>block_row hb,hBX,hB2⟩ rfl rfl ?_
 rintro ⟨i,s1,rs⟩ ⟨hi,hkp,hle,hfo,hrf,eX,e2'⟩
 simp only at hi hkp hle hfo hrf eX e2'
 have hlv:=hfo.len
 simp only [zH,curF_len] at hlv
 simp -implicitDefEqProofs only [keep,eX,hlv,on0,zZ,zA,zB,zC,zD,zE,zG,zH,zI,zJ,zK,if_true,if_false,reduceCtorEq,zW,zX,zY,za,zb]
 refine cond_split (fun h1=>?_) (fun h1=>?_)
 ·obtain ⟨b,hb,hlt⟩:=at_of h1
  have hbo:=hbs.2 b (List.mem_of_getElem? hb)
  obtain ⟨hkd,hln⟩:=hbl b (List.mem_of_getElem? hb)
  have y1:=hbo.Lines.1
  have more:=i64_succ (show i<4611686018427387904 by omega)
  obtain ⟨id,hidn,hidX,hve,hob,hrsl,hgr⟩:∃ id,σ.length+2≤id∧id<X∧v0=.sl id (curF trimB bs i).length 0 (curF trimB bs i).length∧s1[id]?=some (.slc 3 rs)∧rs.length=(curF trimB bs i).length∧∀ (k:Nat) (b:SheetBlock) (r:List V),(curF trimB bs i)[k]?=some b→rs[k]?=some r→GR X s1 b r:=by
   rcases hfo with ⟨h0,_⟩ | h
   ·have:=curF_len trimB bs i
    rw [h0] at this
    simp at this
    omega
   ·exact h
  rw [curF_len] at hve hrsl
  subst hve
  have hri:rs[i]?=some b.vs:=hrf i b (Nat.le_refl _) hb (by simp)
  have kx:((i:Nat):Int)<((bs.length:Nat):Int):=by omega
  have c2:0<2:=by omega
  simp -implicitDefEqProofs only [eX,hob,hrsl,hri,kx,c2,ze,SheetBlock.vs,zV,zd,zm,yA,zh,zZ,zA,zB,zC,zD,zE,zG,zH,zI,zJ,zK,if_true,if_false,reduceCtorEq,zW,zX,zY,za,zb]
  refine lit_own ?_
  obtain ⟨s2,hs2⟩:∃ s2:Store,s2=s1++[Go.Ab.Obj.box [.t (.str b.Kind),.t (.str b.Name),.t (.lst 2 (b.Lines.map SheetLine.ts))]]:=⟨_,rfl⟩
  have l2:s2.length=s1.length+1:=by rw [hs2]; simp
  have k12:Kp s1 s2:=by rw [hs2]; exact Kp.app _ _
  have bx2:s2[s1.length]?=some (.box [.t (.str b.Kind),.t (.str b.Name),.t (.lst 2 (b.Lines.map SheetLine.ts))]):=by rw [hs2]; simp
  rw [← hs2]
  simp -implicitDefEqProofs only [zZ,zA,zB,zC,zD,zE,zG,zH,zI,zJ,zK,if_true,if_false,reduceCtorEq,zW,zX,zY,za,zb]
  refine loop_g [6,7,2,3,4,5] [2,3,4,5] (fun g:Gl=>[(6,g.v),(7,.t (.int .i64 (g.k:Nat)))]) Gl.s (fun g=>g.k≤b.Lines.length∧OVl s2 2 (rowsV (trimL b.Kind (b.Lines.take g.k))) g.v g.s) (fun g=>b.Lines.length - g.k) ⟨0,_,_⟩ (by simp; omega) ⟨Nat.zero_le _,ovl_lit s2 2⟩ (by first | rfl | simp) (by first | rfl | simp) ?_
  rintro ⟨k,v,s3⟩ ⟨hk,hvl⟩
  simp only at hk hvl
  have ov:=hvl.one
  have le3:=hvl.le
  have bx3:=hvl.kp.box bx2
  have ob3:=hvl.kp.box (k12.box hob)
  have eX3:=hvl.kp.box (k12.box eX)
  simp -implicitDefEqProofs only [keep,bx3,zh,zZ,zA,zB,zC,zD,zE,zG,zH,zI,zJ,zK,if_true,if_false,reduceCtorEq,zW,zX,zY,za,zb]
  refine cond_split (fun h3=>?_) (fun h3=>?_)
  ·obtain ⟨x,hx,hltx⟩:=at_of h3
   obtain ⟨j,r,hr,hj,hro⟩:=line_rule hln hx
   have hxo:=hbo.Lines.2 x (List.mem_of_getElem? hx)
   have more2:=i64_succ (show k<4611686018427387904 by omega)
   have c1:0<1:=by omega
   have jx:((j:Nat):Int)<(((rulesR b.Kind).length:Nat):Int):=by have:=(List.getElem?_eq_some_iff.1 hr).1; omega
   have pre1:∀ (s:Store) o,preσ s (s++[o]):=fun s o=>⟨_,rfl⟩
   have bx3a:∀ τ:Store,(s3++τ)[s1.length]?=_:=fun τ=>(Kp.app s3 τ).box bx3
   simp -implicitDefEqProofs only [bx3,bx3a,hx,SheetLine.ts,SheetLine.vs,zV,zd,zm,yA,zh,zZ,zA,zB,zC,zD,zE,zG,zH,zI,zJ,zK,if_true,if_false,reduceCtorEq,zW,zX,zY,za,zb]
   first | refine call_pure (spec_SheetRules b.Kind _) ?_ | refine call_pureQ (fun _=>spec_SheetRules b.Kind _) ?_
   simp -implicitDefEqProofs only [bx3,bx3a,hx,SheetLine.ts,SheetLine.vs,tSheetRuleS,zV,zd,zm,yA,zh,zZ,zA,zB,zC,zD,zE,zG,zH,zI,zJ,zK,if_true,if_false,reduceCtorEq,zW,zX,zY,za,zb]
   first | refine call_pure (spec_l38Rule b.Kind x.Key _) ?_ | refine call_pureQ (fun _=>spec_l38Rule b.Kind x.Key _) ?_
   rw [hj]
   simp -implicitDefEqProofs only [bx3,bx3a,hx,hr,jx,pre1,SheetLine.ts,SheetLine.vs,SheetRule.ts,SheetRule.vs,tSheetRuleS,zV,zd,zm,yA,zh,zZ,zA,zB,zC,zD,zE,zG,zH,zI,zJ,zK,if_true,if_false,reduceCtorEq,zW,zX,zY,za,zb]
   have hrow:∀ s':Store,rowsOf s' 2 (.rows 2 [[V.t (.str x.Key),V.t (.lst 1 (x.Words.map tStr))]])=some [[V.t (.str x.Key),V.t (.lst 1 (x.Words.map tStr))]]:=fun s'=>rowsOf_rows rfl
   have hkl:keepL b.Kind x=(r.Many || !(r.Default == x.Words)):=by rw [keepL,hro]
   have hlk:=trimL_le b.Kind b.Lines k
   have hst:=trimL_step (kind:=b.Kind) hx
   rcases hm:r.Many with _ | _
   ·simp -implicitDefEqProofs only [hm,bx3a,hx,SheetLine.ts,SheetLine.vs,SheetRule.ts,SheetRule.vs,cond_t,cond_f,zV,zd,zm,yA,zh,zZ,zA,zB,zC,zD,zE,zG,zH,zI,zJ,zK,if_true,if_false,reduceCtorEq,zW,zX,zY,za,zb]
    have hwd:=spec_l39Words r.Default x.Words (rule_strs (List.mem_of_getElem? hr)) hxo.Words
    simp only [tStrs] at hwd
    first | refine call_pure (hwd _) ?_ | refine call_pureQ (fun _=>hwd _) ?_
    rcases hw:(r.Default == x.Words) with _ | _
    ·have hkt:keepL b.Kind x=true:=by rw [hkl,hm,hw]; rfl
     simp -implicitDefEqProofs only [hm,hw,bx3a,hx,c1,c2,ov,SheetLine.ts,SheetLine.vs,SheetRule.ts,SheetRule.vs,cond_t,cond_f,Bool.not_false,zV,zd,zm,yA,zh,zZ,zA,zB,zC,zD,zE,zG,zH,zI,zJ,zK,if_true,if_false,reduceCtorEq,zW,zX,zY,za,zb]
     refine lit_rows ?_
     simp -implicitDefEqProofs only [hrow,zZ,zA,zB,zC,zD,zE,zG,zH,zI,zJ,zK,if_true,if_false,reduceCtorEq,zW,zX,zY,za,zb]
     refine (hvl.more _).app (by simp only [zh,zj,zk,maxBy]; omega) (by simp only [zh,zj,zk]; omega) fun v' s' hl' _ hv'=>?_
     simp -implicitDefEqProofs only [more2,zZ,zA,zB,zC,zD,zE,zG,zH,zI,zJ,zK,if_true,if_false,reduceCtorEq,zW,zX,zY,za,zb]
     rw [hkt,if_pos rfl] at hst
     exact lk_g ⟨k+1,v',s'⟩ (by simp only; omega) ⟨by simp only; omega,by simp only; rw [hst]; simp only [rowsV,List.map_append] at hv' ⊢; exact hv'⟩ (by simp at hl'; omega) rfl rfl
    ·have hkt:keepL b.Kind x=false:=by rw [hkl,hm,hw]; rfl
     simp -implicitDefEqProofs only [hm,hw,bx3a,hx,c1,c2,ov,more2,SheetLine.ts,SheetLine.vs,SheetRule.ts,SheetRule.vs,cond_t,cond_f,Bool.not_true,zV,zd,zm,yA,zh,zZ,zA,zB,zC,zD,zE,zG,zH,zI,zJ,zK,if_true,if_false,reduceCtorEq,zW,zX,zY,za,zb]
     rw [hkt,if_neg (by simp),List.append_nil] at hst
     exact lk_g ⟨k+1,v,_⟩ (by simp only; omega) ⟨by simp only; omega,by simp only; rw [hst]; exact hvl.more _⟩ (by simp; omega) rfl rfl
   ·have hkt:keepL b.Kind x=true:=by rw [hkl,hm]; rfl
    simp -implicitDefEqProofs only [hm,bx3a,hx,c1,c2,ov,SheetLine.ts,SheetLine.vs,SheetRule.ts,SheetRule.vs,cond_t,cond_f,zV,zd,zm,yA,zh,zZ,zA,zB,zC,zD,zE,zG,zH,zI,zJ,zK,if_true,if_false,reduceCtorEq,zW,zX,zY,za,zb]
    refine lit_rows ?_
    simp -implicitDefEqProofs only [hrow,zZ,zA,zB,zC,zD,zE,zG,zH,zI,zJ,zK,if_true,if_false,reduceCtorEq,zW,zX,zY,za,zb]
    refine (hvl.more _).app (by simp only [zh,zj,zk,maxBy]; omega) (by simp only [zh,zj,zk]; omega) fun v' s' hl' _ hv'=>?_
    simp -implicitDefEqProofs only [more2,zZ,zA,zB,zC,zD,zE,zG,zH,zI,zJ,zK,if_true,if_false,reduceCtorEq,zW,zX,zY,za,zb]
    rw [hkt,if_pos rfl] at hst
    exact lk_g ⟨k+1,v',s'⟩ (by simp only; omega) ⟨by simp only; omega,by simp only; rw [hst]; simp only [rowsV,List.map_append] at hv' ⊢; exact hv'⟩ (by simp at hl'; omega) rfl rfl
  ·have hkk:=end_of h3 hk
   rw [hkk,List.take_length] at hvl
   have hid3:id<s3.length:=(List.getElem?_eq_some_iff.1 ob3).1
   simp -implicitDefEqProofs only [eX3,ob3,hrsl,hri,kx,ov,one_cells ov,more,SheetBlock.vs,zV,zd,zm,yA,zh,zZ,zA,zB,zC,zD,zE,zG,zH,zI,zJ,zK,if_true,if_false,reduceCtorEq,zW,zX,zY,za,zb]
   obtain ⟨s6,hs6⟩:∃ s6:Store,s6=s3.set id (.slc 3 (rs.set i [.t (.str b.Kind),.t (.str b.Name),v])):=⟨_,rfl⟩
   have l6:s6.length=s3.length:=by rw [hs6,List.length_set]
   have k6:∀ p,p≠id→s6[p]?=s3[p]?:=fun p hp=>by rw [hs6,List.getElem?_set_ne (fun e=>hp e.symm)]
   have k16:∀ p,p≠id→p<s1.length→s6[p]?=s1[p]?:=fun p hp hl=>by rw [k6 p hp,hvl.kp p (by omega),k12 p hl]
   refine lk_g ⟨i+1,s6,rs.set i [.t (.str b.Kind),.t (.str b.Name),v]⟩ (by simp only; omega) ⟨by simp only; omega,fun p hp=>?_,by simp only; omega,?_,fun k b' hk' hb' hne=>?_,?_,?_⟩ (by first | omega | (rw [← hs6]; omega) | (simp only [zl]; omega)) (by rw [hs6]) rfl
   ·simp only
    rw [k16 p (by omega) (by omega)]
    exact hkp p hp
   ·simp only
    refine .inr ⟨id,hidn,hidX,by rw [curF_len],by rw [hs6]; exact List.getElem?_set_self hid3,by rw [List.length_set,hrsl,curF_len],fun k b' r' hb' hr'=>?_⟩
    rw [curF_step hb] at hb'
    by_cases hki:k=i
    ·subst hki
     rw [List.getElem?_set_self (by rw [curF_len]; exact hlt)] at hb'
     rw [List.getElem?_set_self (by omega)] at hr'
     obtain rfl:=Option.some.inj hb'
     obtain rfl:=Option.some.inj hr'
     refine ⟨v,rfl,.inr ?_⟩
     rcases hvl.ob with ⟨g1,g2⟩ | ⟨id2,g1,g2,g3⟩
     ·exact .inl ⟨by show trimL b.Kind b.Lines=[]; simpa [rowsV] using g1,g2⟩
     ·refine .inr ⟨id2,by omega,by rw [g2]; simp [trimB,rowsV],?_⟩
      rw [k6 id2 (by omega)]
      exact g3
    ·rw [List.getElem?_set_ne (fun e=>hki e.symm)] at hb' hr'
     exact (hgr k b' r' hb' hr').kp fun j hj hl=>k16 j (by omega) hl
   ·simp only at hk' ⊢
    rw [List.getElem?_set_ne (by omega)]
    exact hrf k b' (by omega) hb' hne
   ·simp only
    rw [k16 X (by omega) (by omega)]; exact eX
   ·simp only
    rw [k16 _ (by omega) (by omega)]; exact e2'
 ·have hii:=end_of h1 hi
  rw [hii,curF_all] at hfo
  have hfok:SheetBlock.OkS (bs.map trimB):=⟨by rw [List.length_map]; omega,fun y hy=>by
   obtain ⟨b,hb,rfl⟩:=List.mem_map.1 hy
   exact trimB_ok (hbs.2 b hb)⟩
  simp -implicitDefEqProofs only [eX,on0,one_cells on0,zZ,zA,zB,zC,zD,zE,zG,zH,zI,zJ,zK,if_true,if_false,reduceCtorEq,zW,zX,zY,za,zb]
  refine call_by (by rw [List.append_nil]; exact spec_l39CopyG (bs.map trimB) hfok v0 _ _ _ _ hfo) ?_
  rintro r s3 ⟨v3,rfl,hk3,hl3,hf3⟩
  have on3:=hf3.one
  have e23:s3[σ.length+1]?=some (.box [.nils]):=hk3.box e2'
  have e2t:∀ o:Go.Ab.Obj,(s3.set (σ.length+1) o)[σ.length+1]?=some o:=fun o=>List.getElem?_set_self (by omega)
  simp -implicitDefEqProofs only [e23,e2t,on3,one_cells on3,zZ,zA,zB,zC,zD,zE,zG,zH,zI,zJ,zK,if_true,if_false,reduceCtorEq,zW,zX,zY,za,zb]
  have K3:Kp σ s3:=fun x hx=>by rw [hk3 x (by omega)]; exact hkp x hx
  refine fin_keep (by simp; omega) ⟨_,_,kp_split (K3.set (by omega)) (by simp; omega),rfl,?_⟩
  rw [hts]
  simp only [SeesFL]
  exact ⟨_,_,rfl,sees_fo2 ((hf3.mono (by omega)).set e23),rfl⟩
end Go.Proofs.YtnnnemgbgilfaaaDoor.W
end
section
open Go Go.Ab
set_option maxHeartbeats 2000000
namespace Go.Proofs.YtnnnemgbgilfaaaDoor.W
theorem strs_sees (s:Store) (l:List (List UInt8)):Sees s (tStrs l) (.t (tStrs l)):=by
 have key:∀ l:List (List UInt8),SeesRows s (l.map tStr) ((l.map tStr).map fun r=>r.map .t):=by
  intro l
  induction l with
  | nil=>simp [SeesRows]
  | cons a l ih =>
   simp only [zu,SeesRows]
   refine ⟨_,_,rfl,?_,ih⟩
   simp only [tStr,zu,zx,SeesL]
   exact ⟨_,_,rfl,by simp only [Sees],rfl⟩
 simp only [tStrs,Sees]
 exact ⟨_,by simp only [Go.Ab.rowsOf,if_true],key l,by omega⟩
theorem eq_len {a b:List (List UInt8)} (h:a.length≠b.length):(a == b)=false:=by
 simp only [beq_eq_false_iff_ne,ne_eq]
 exact fun e=>h (by rw [e])
def c_slices_Equal___string_string_:C:=(.seq (.ops [⟨some 4,none,.mv (.c (.t (.bool false)))⟩]) (.seq (.seq (.ops [⟨some 6,none,.mv (.t 0)⟩,⟨some 7,none,.len false (.t 6)⟩,⟨some 8,none,.mv (.t 1)⟩,⟨some 9,none,.len false (.t 8)⟩,⟨some 10,none,.bin .neq (.t 7) (.t 9)⟩]) (.cond (.t 10) (.seq (.ops [⟨some 4,none,.mv (.c (.t (.bool false)))⟩]) .ret) .skip)) (.seq (.seq (.ops [⟨some 11,none,.mv (.t 0)⟩,⟨some 12,none,.len false (.t 11)⟩,⟨some 13,none,.mv (.c (.t (.int .i64 0)))⟩]) (.block 0 (.loop (.seq (.ops [⟨some 14,none,.bin .lss (.t 13) (.t 12)⟩]) (.seq (.cond (.t 14) .skip (.exit 0)) (.seq (.block 1 (.seq (.ops [⟨some 15,none,.mv (.t 13)⟩,⟨some 5,none,.mv (.t 15)⟩]) (.seq (.drawn [.mk 0 false ⟨some 16,none,.mv (.t 0)⟩ [],.mk 1 false ⟨some 17,none,.mv (.t 5)⟩ [],.mk 2 false ⟨some 18,none,.indexAddr 1 (.t 16) (.t 17)⟩ [],.mk 3 false ⟨some 19,none,.load none (.t 18)⟩ [],.mk 4 false ⟨some 20,none,.mv (.t 1)⟩ [],.mk 5 false ⟨some 21,none,.mv (.t 5)⟩ [],.mk 6 false ⟨some 22,none,.indexAddr 1 (.t 20) (.t 21)⟩ [],.mk 7 false ⟨some 23,none,.load none (.t 22)⟩ [],.mk 8 false ⟨some 24,none,.bin .neq (.t 19) (.t 23)⟩ []]) (.cond (.t 24) (.seq (.ops [⟨some 4,none,.mv (.c (.t (.bool false)))⟩]) .ret) .skip)))) (.ops [⟨some 25,none,.bin .add (.t 13) (.c (.t (.int .i64 1)))⟩,⟨some 13,none,.mv (.t 25)⟩]))))))) (.seq (.ops [⟨some 4,none,.mv (.c (.t (.bool true)))⟩]) .ret))))
theorem k_slices_Equal___string_string_:comp Tryd.prog 26 (Tryd.f31.body.getD .skip)=some c_slices_Equal___string_string_:=by kernel_rfl
set_option maxHeartbeats 8000000 in
theorem slices_EqualS (a b:List (List UInt8)) (ha:StrsOk a) (hb:StrsOk b) (σ:Store):ACalls Tryd.prog 31 [.t (tStrs a),.t (tStrs b)] σ fun r σ'=>r=.t (.bool (a == b))∧σ'=σ:=by
 refine acalls_of Tryd.func31 (by decide +kernel) (code:=Tryd.f31.body.getD .skip) (n:=26) (c:=c_slices_Equal___string_string_) (rs:=[(.tmp 4)]) rfl rfl k_slices_Equal___string_string_ (by kernel_rfl) (by simp) (fun hσ=>?_)
 have y1:=ha.1
 simp -implicitDefEqProofs only [c_slices_Equal___string_string_,zh,zZ,zA,zB,zC,zD,zE,zG,zH,zI,zJ,zK,if_true,if_false,reduceCtorEq,zW,zX,zY,za,zb]
 refine cond_split (fun h1=>?_) (fun h1=>?_)
 ·simp -implicitDefEqProofs only [zZ,zA,zB,zC,zD,zE,zG,zH,zI,zJ,zK,if_true,if_false,reduceCtorEq,zW,zX,zY,za,zb]
  have h2:(a == b)=false:=eq_len (fun e=>by rw [e] at h1; simp [bne] at h1)
  exact ret_same0 rfl ⟨by rw [h2]; rfl,rfl⟩
 have hlen:a.length=b.length:=by
  have:((a.length:Nat):Int)=((b.length:Nat):Int):=by simpa [bne] using h1
  omega
 simp -implicitDefEqProofs only [zh,zZ,zA,zB,zC,zD,zE,zG,zH,zI,zJ,zK,if_true,if_false,reduceCtorEq,zW,zX,zY,za,zb]
 refine loop_p [13,0,1,12] [0,1,12] (fun k:Nat=>[(13,.t (.int .i64 (k:Nat)))]) (fun k=>k≤a.length∧(a.drop k == b.drop k)=(a == b)) (fun k=>a.length - k) 0 (by simp) ⟨Nat.zero_le _,rfl⟩ rfl ?_
 rintro k ⟨hk,hall⟩
 simp -implicitDefEqProofs only [keep,zh,zZ,zA,zB,zC,zD,zE,zG,zH,zI,zJ,zK,if_true,if_false,reduceCtorEq,zW,zX,zY,za,zb]
 refine cond_split (fun h1=>?_) (fun h1=>?_)
 ·obtain ⟨x,hx,hlt⟩:=at_of h1
  obtain ⟨y,hy⟩:∃ y,b[k]?=some y:=⟨b[k],List.getElem?_eq_getElem (by omega)⟩
  have hd:=drop_of hx
  have hd2:=drop_of hy
  have more:=i64_succ (show k<4611686018427387904 by omega)
  rw [hd,hd2] at hall
  simp -implicitDefEqProofs only [hx,hy,tStr,more,zV,zd,zm,yA,zh,zZ,zA,zB,zC,zD,zE,zG,zH,zI,zJ,zK,if_true,if_false,reduceCtorEq,zW,zX,zY,za,zb]
  have hc:((x::a.drop (k+1)) == (y::b.drop (k+1)))=(x == y && a.drop (k+1) == b.drop (k+1)):=rfl
  rw [hc] at hall
  rcases hxy:(x == y) with _ | _
  ·rw [hxy,Bool.false_and] at hall
   have hne:(x != y)=true:=by simp [bne,hxy]
   simp -implicitDefEqProofs only [hxy,hne,cond_t,cond_f,Bool.not_false,zZ,zA,zB,zC,zD,zE,zG,zH,zI,zJ,zK,if_true,if_false,reduceCtorEq,zW,zX,zY,za,zb]
   exact ret_same0 rfl ⟨by rw [← hall]; rfl,rfl⟩
  ·rw [hxy,Bool.true_and] at hall
   have hne:(x != y)=false:=by simp [bne,hxy]
   simp -implicitDefEqProofs only [hxy,hne,more,cond_t,cond_f,Bool.not_true,zZ,zA,zB,zC,zD,zE,zG,zH,zI,zJ,zK,if_true,if_false,reduceCtorEq,zW,zX,zY,za,zb]
   first | exact lk_p0 (k+1) (by simp) (by simp) (by omega) ⟨by omega,hall⟩ rfl | exact lk_p (k+1) (by simp) (by simp) hσ rfl (by omega) ⟨by omega,hall⟩ rfl rfl | exact lk_pm (k+1) (Nat.le_refl _) (by simp) hσ rfl rfl (by omega) ⟨by omega,hall⟩ (by simp [ltE,keep,eget,V.lt]) rfl
 ·have hkk:=end_of h1 hk
  have e1:a.drop k=[]:=by rw [hkk,List.drop_length]
  have e2:b.drop k=[]:=by rw [hkk,hlen,List.drop_length]
  rw [e1,e2] at hall
  simp -implicitDefEqProofs only [zZ,zA,zB,zC,zD,zE,zG,zH,zI,zJ,zK,if_true,if_false,reduceCtorEq,zW,zX,zY,za,zb]
  exact ret_same0 rfl ⟨by rw [← hall]; rfl,rfl⟩
def keepQ (kind:List UInt8) (q:QL):Bool:=keepL kind q.x
structure TG (kind:List UInt8) (p id n i:Nat) (L:List QL) (s:Store):Prop where
 bx:s[p]?=some (.box [.ep id n i 0])
 ob:∃ rs name lv,s[id]?=some (.slc 3 rs)∧rs.length=n∧rs[i]?=some [.t (.str kind),.t (.str name),lv]∧Go.Ab.one lv=true
 ats:∀ q∈L,q.at s
theorem TG.kp {kind:List UInt8} {p id n i:Nat} {L:List QL} {s s':Store} (h:TG kind p id n i L s) (k:Kp s s'):TG kind p id n i L s':=by
 obtain ⟨rs,name,lv,h1,h2⟩:=h.ob
 exact ⟨k.box h.bx,⟨rs,name,lv,k.box h1,h2⟩,fun q hq=>k.own (h.ats q hq)⟩
theorem TG.set {kind:List UInt8} {p id n i lid:Nat} {L:List QL} {s:Store} {R:List (List V)} (h:TG kind p id n i L s) (hl:s[lid]?=some (.slc 2 R)) (o:Go.Ab.Obj):TG kind p id n i L (s.set lid o):=by
 obtain ⟨rs,name,lv,h1,h2⟩:=h.ob
 refine ⟨?_,⟨rs,name,lv,?_,h2⟩,fun q hq=>set_own (h.ats q hq) fun hm=>?_⟩
 ·rw [List.getElem?_set_ne (fun e=>by have:=h.bx; rw [← e,hl] at this; cases this)]; exact h.bx
 ·rw [List.getElem?_set_ne (fun e=>by rw [← e,hl] at h1; cases h1)]; exact h1
 ·obtain ⟨rs,h3⟩:=own_str1 (h.ats q hq) lid hm
  rw [hl] at h3
  cases h3
theorem keep_one {kind:List UInt8} {x:SheetLine} {r:SheetRule} (h:ruleOf kind x.Key=some r):(!keepL kind x)=(!r.Many && x.Words == r.Default):=by
 rw [keepL,h]
 have:(r.Default == x.Words)=(x.Words == r.Default):=by
  by_cases e:r.Default=x.Words
  ·simp [e]
  ·have e2:¬ x.Words=r.Default:=fun h=>e h.symm
   rw [beq_eq_false_iff_ne.2 e,beq_eq_false_iff_ne.2 e2]
 show (!(r.Many || !(r.Default == x.Words)))=_
 rw [this]
 cases r.Many <;> simp
def c_impl_SheetTrim_1:C:=(.seq (.ops [⟨some 2,none,.box (.t 0)⟩,⟨some 3,none,.mv (.c (.t (.bool false)))⟩]) (.seq (.drawnP 4 [.t (.str []),.nils,.t (.bool false),.nils] [.mk 0 false ⟨some 7,none,.load none (.t 1)⟩ [],.mk 1 false ⟨some 8,none,.nilCheck (.t 7)⟩ [],.mk 2 false ⟨some 9,none,.fieldAddr 0 (.t 8)⟩ [],.mk 3 false ⟨some 10,none,.load none (.t 9)⟩ [],.mk 4 false ⟨some 11,none,.fieldAddr 0 (.t 2)⟩ [],.mk 5 false ⟨some 12,none,.load none (.t 11)⟩ [],.mk 6 true ⟨some 13,none,.call (.c (.fn (.func 30) [])) [.t 10,.t 12]⟩ [⟨some 4,none,.newP [.t (.str []),.nils,.t (.bool false),.nils]⟩],.mk 7 false ⟨some 6,none,.mv (.t 13)⟩ [],.mk 8 false ⟨some 14,none,.extract (.t 6) 0⟩ [],.mk 9 false ⟨some 15,none,.extract (.t 6) 1⟩ [],.mk 11 false ⟨none,none,.store 4 (.t 4) (.t 14)⟩ [],.mk 12 false ⟨some 5,none,.mv (.t 15)⟩ []]) (.seq (.ops [⟨some 16,none,.fieldAddr 2 (.t 4)⟩,⟨some 17,none,.load none (.t 16)⟩,⟨some 18,none,.un .not (.t 17)⟩,⟨some 19,none,.mv (.t 18)⟩,⟨some 20,some ⟨19,true⟩,.fieldAddr 1 (.t 2)⟩,⟨some 21,some ⟨19,true⟩,.load none (.t 20)⟩,⟨some 22,some ⟨19,true⟩,.fieldAddr 3 (.t 4)⟩,⟨some 23,some ⟨19,true⟩,.load none (.t 22)⟩,⟨some 24,some ⟨19,true⟩,.call (.c (.fn (.func 31) [])) [.t 21,.t 23]⟩,⟨some 25,none,.pick (.t 19) (.t 24) (.c (.t (.bool false)))⟩,⟨some 3,none,.mv (.t 25)⟩]) .ret)))
theorem k_impl_SheetTrim_1:comp Tryd.prog 26 (Tryd.f29.body.getD .skip)=some c_impl_SheetTrim_1:=by kernel_rfl
set_option maxHeartbeats 8000000 in
theorem trim1 (kind:List UInt8) (p id n i:Nat) (L:List QL) (q:QL) (hq:q∈L) (hi:i<n) (hok:q.x.Ok) (hr:∃ r,ruleOf kind q.x.Key=some r) (σ:Store) (hg:TG kind p id n i L σ):ACalls Tryd.prog 29 [.agg q.row,.ptr p 0] σ fun r σ'=>r=.t (.bool (!keepQ kind q))∧σ'=σ:=by
 refine acalls_of Tryd.func29 (by decide +kernel) (code:=Tryd.f29.body.getD .skip) (n:=26) (c:=c_impl_SheetTrim_1) (rs:=[(.tmp 3)]) rfl rfl k_impl_SheetTrim_1 (by kernel_rfl) (by simp) (fun hσ=>?_)
 obtain ⟨rs,name,lv,hob,hrl,hri,olv⟩:=hg.ob
 have hbx:=hg.bx
 have ow:=(hg.ats q hq).one
 obtain ⟨r,hro⟩:=hr
 have bxA:∀ τ:Store,(σ++τ)[p]?=some (.box [.ep id n i 0]):=fun τ=>(Kp.app σ τ).box hbx
 have obA:∀ τ:Store,(σ++τ)[id]?=some (.slc 3 rs):=fun τ=>(Kp.app σ τ).box hob
 have kx:((i:Nat):Int)<((n:Nat):Int):=by omega
 have pre1:∀ (s:Store) o,preσ s (s++[o]):=fun s o=>⟨_,rfl⟩
 simp -implicitDefEqProofs only [c_impl_SheetTrim_1,QL.row,ow,bxA,obA,hrl,hri,olv,kx,ze,zV,zd,zm,yA,zh,zZ,zA,zB,zC,zD,zE,zG,zH,zI,zJ,zK,if_true,if_false,reduceCtorEq,zW,zX,zY,za,zb]
 first | refine call_pure (impl_find kind q.x.Key _) ?_ | refine call_pureQ (fun _=>impl_find kind q.x.Key _) ?_
 rw [hro]
 have pre2:∀ (a b:Go.Ab.Obj),preσ (σ++[a]) (σ++[a,b]):=fun a b=>⟨[b],by simp⟩
 simp -implicitDefEqProofs only [ruleV,SheetRule.vs,ow,bxA,obA,pre1,pre2,zV,zd,zm,yA,zh,zZ,zA,zB,zC,zD,zE,zG,zH,zI,zJ,zK,if_true,if_false,reduceCtorEq,zW,zX,zY,za,zb]
 have hm0:=keep_one (x:=q.x) hro
 have fin:∀ {u:V} {τ:Store},u=.t (.bool (!keepQ kind q))→u.lt σ.length=true→retV σ.length (fun rr σ'=>rr=.t (.bool (!keepQ kind q))∧σ'=σ) (σ++τ) (some [u]):=fun h h2=>ret_same rfl hσ h2 ⟨h,rfl⟩
 rcases hm:r.Many with _ | _
 ·simp -implicitDefEqProofs only [hm,ow,cond_t,cond_f,Bool.not_false,zZ,zA,zB,zC,zD,zE,zG,zH,zI,zJ,zK,if_true,if_false,reduceCtorEq,zW,zX,zY,za,zb]
  have hrr:=rule_strs (rule_in hro).1
  have hsw:∀ τ:Store,Sees (σ++τ) (tStrs q.x.Words) q.w:=fun τ=>((Kp.app σ τ).own (hg.ats q hq)).sees
  refine call_bor (fun σ=>slices_EqualS q.x.Words r.Default hok.Words hrr σ) rfl ⟨_,_,rfl,.inl ⟨_,rfl,hsw _⟩,_,_,rfl,.inl ⟨_,rfl,strs_sees _ _⟩,rfl⟩ ?_
  simp -implicitDefEqProofs only [hm,cond_t,cond_f,zZ,zA,zB,zC,zD,zE,zG,zH,zI,zJ,zK,if_true,if_false,reduceCtorEq,zW,zX,zY,za,zb]
  exact fin (by rw [keepQ,hm0,hm]; simp) rfl
 ·simp -implicitDefEqProofs only [hm,cond_t,cond_f,Bool.not_true,zZ,zA,zB,zC,zD,zE,zG,zH,zI,zJ,zK,if_true,if_false,reduceCtorEq,zW,zX,zY,za,zb]
  exact fin (by rw [keepQ,hm0,hm]; simp) rfl
end Go.Proofs.YtnnnemgbgilfaaaDoor.W
end
