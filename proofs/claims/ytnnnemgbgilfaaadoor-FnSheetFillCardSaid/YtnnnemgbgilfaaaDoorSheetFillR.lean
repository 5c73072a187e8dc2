/- How a sheet is filled, block by block. Conditions: none. -/
/- What a filled sheet is. Conditions: none. -/
import Derived.Test.YtnnnemgbgilfaaaDoorSheetFillA2
import Derived.Test.YtnnnemgbgilfaaaDoorSheetFillP
set_option linter.unusedSimpArgs false
set_option linter.unusedVariables false
set_option linter.defProp false
open Bool renaming and_eq_true → yB
open Go.Ab renaming eget → zC, env0 → zD, isNilP → zI, isNilS → zJ, lenSl → zH, lenStr → zG, nat_nn → zV, opv → zA, opvs → zB, putAt → zK, setD → zE
open List renaming getElem?_map → zm, length_append → zt, length_cons → zj, length_map → zh, length_nil → zk, length_set → zl, map_cons → zu, map_nil → zx, nil_append → zr
open Nat renaming reduceAdd → zb, reduceEqDiff → zX, reduceLeDiff → zW, reduceMul → za, reduceSub → zY, zero_add → ze, zero_le → zd
open Option renaming map_some → yA
section
open Go Go.Ab
set_option maxHeartbeats 2000000
namespace Go.Proofs.YtnnnemgbgilfaaaDoor.W
structure GmJ where
 j:Nat
 v:V
 s:Store
 M:List QL
structure FM (s1:Store) (L:List QL) (kind:List UInt8) (ls:List SheetLine) (g:GmJ):Prop where
 le:g.j≤(rulesR kind).length
 ov:OVl s1 2 (g.M.map QL.row) g.v g.s
 ats:∀ q∈g.M,q.at g.s
 nd:(g.M.flatMap QL.is).Nodup
 xs:g.M.map QL.x=((rulesR kind).take g.j).flatMap fun r=>stdOr r (ofR r.Key ls)
 wh:∀ q∈g.M,(q∈L∧∃ i r,i<g.j∧(rulesR kind)[i]?=some r∧q.x.Key=r.Key)∨∀ i∈q.is,s1.length≤i
theorem FM.zero (s1:Store) (L:List QL) (kind:List UInt8) (ls:List SheetLine):FM s1 L kind ls ⟨0,.nils,s1,[]⟩ :=
 ⟨Nat.zero_le _,OVl.nils,by simp,by simp,rfl,by simp⟩
theorem q_keep {s0 s s':Store} {rows:List (List V)} {v:V} {q:QL} (h:q.at s) (ho:OVl s0 2 rows v s) (k:∀ j,j<s.length→(∀ g,v=.sl j g 0 g→False)→s'[j]?=s[j]?):q.at s':=by
 refine Own.frame h fun i hi=>k i (h.lt i hi) fun g hg=>?_
 obtain ⟨rs,h1⟩:=own_str1 h i hi
 rcases ho.ob with ⟨_,rfl | rfl⟩ | ⟨id,_,rfl,h2⟩
 ·cases hg
 ·cases hg
 ·simp only [V.sl.injEq] at hg
  rw [hg.1,h1] at h2
  cases h2
theorem FM.next {s1:Store} {L:List QL} {kind:List UInt8} {ls:List SheetLine} {j:Nat} {v v3:V} {s s2 s3:Store} {M N:List QL} {r:SheetRule} (h:FM s1 L kind ls ⟨j,v,s,M⟩) (hr:(rulesR kind)[j]?=some r)
  (hk:Kp s s2) (hl:s.length≤s2.length) (k3:∀ j,j<s2.length→(∀ g,v=.sl j g 0 g→False)→s3[j]?=s2[j]?) (ov3:OVl s1 2 (M.map QL.row++N.map QL.row) v3 s3)
  (hat:∀ q∈N,q.at s2) (hnd:(N.flatMap QL.is).Nodup) (hdis:∀ q∈M,∀ p∈N,∀ i∈q.is,i∉p.is) (hwh:∀ q∈N,(q∈L∧q.x.Key=r.Key)∨∀ i∈q.is,s1.length≤i) (hx:N.map QL.x=stdOr r (ofR r.Key ls)):FM s1 L kind ls ⟨j+1,v3,s3,M++N⟩:=by
 have hj:=(List.getElem?_eq_some_iff.1 hr).1
 have ov2:=ovl_step h.ov hk hl
 refine ⟨hj,by rw [List.map_append]; exact ov3,fun q hq=>?_,?_,?_,fun q hq=>?_⟩
 ·rcases List.mem_append.1 hq with hq | hq
  ·exact q_keep (hk.own (h.ats q hq)) ov2 k3
  ·exact q_keep (hat q hq) ov2 k3
 ·rw [List.flatMap_append]
  refine List.nodup_append.2 ⟨h.nd,hnd,fun x hx y hy he=>?_⟩
  obtain ⟨q,hq,hx⟩:=List.mem_flatMap.1 hx
  obtain ⟨p,hp,hy⟩:=List.mem_flatMap.1 hy
  subst he
  exact hdis q hq p hp x hx hy
 ·simp only
  rw [List.map_append,take_of hr,List.flatMap_append,h.xs,hx]
  simp
 ·rcases List.mem_append.1 hq with hq | hq
  ·rcases h.wh q hq with ⟨g1,i,t,g2,g3⟩ | g1
   ·exact .inl ⟨g1,i,t,by simp only at g2 ⊢; omega,g3⟩
   ·exact .inr g1
  ·rcases hwh q hq with ⟨g1,g2⟩ | g1
   ·exact .inl ⟨g1,j,r,by simp,hr,g2⟩
   ·exact .inr g1
theorem FM.disA {s1:Store} {L:List QL} {kind:List UInt8} {ls:List SheetLine} {j:Nat} {v:V} {s:Store} {M:List QL} {r:SheetRule} (h:FM s1 L kind ls ⟨j,v,s,M⟩) (hr:(rulesR kind)[j]?=some r) (hL:(L.flatMap QL.is).Nodup) (hLa:∀ q∈L,q.at s1) :
  ∀ q∈M,∀ p∈ofQ r.Key L,∀ i∈q.is,i∉p.is:=by
 intro q hq p hp i hi hi2
 obtain ⟨hp1,hp2⟩:=List.mem_filter.1 hp
 have hpk:p.x.Key=r.Key:=by simpa using hp2
 rcases h.wh q hq with ⟨g1,a,t,g2,g3,g4⟩ | g1
 ·have:=nodup_uniq hL g1 hp1 hi hi2
  subst this
  have:=key_inj g3 hr (by rw [← g4,hpk])
  simp only at g2
  omega
 ·have:=g1 i hi
  have:=(hLa p hp1).lt i hi2
  omega
theorem FM.own {s1:Store} {L:List QL} {kind:List UInt8} {ls:List SheetLine} {g:GmJ} (h:FM s1 L kind ls g):∃ js,Own g.s (tSheetLineS (g.M.map QL.x)) g.v js∧js.Nodup∧∀ i∈js,(∃ q∈L,i∈q.is)∨s1.length≤i:=by
 have hwh:∀ i∈g.M.flatMap QL.is,(∃ q∈L,i∈q.is)∨s1.length≤i:=fun i hi=>by
  obtain ⟨q,hq,hi⟩:=List.mem_flatMap.1 hi
  rcases h.wh q hq with ⟨g1,_⟩ | g1
  ·exact .inl ⟨q,g1,hi⟩
  ·exact .inr (g1 i hi)
 rcases h.ov.ob with ⟨h0,h1⟩ | ⟨id,h1,h2,h3⟩
 ·have hM:g.M=[]:=by simpa using h0
  refine ⟨[],?_,by simp,by simp⟩
  rw [hM]
  simp only [tSheetLineS,zx,Own]
  exact ⟨by omega,.inl ⟨trivial,trivial,h1⟩⟩
 ·refine ⟨id::g.M.flatMap QL.is,?_,List.nodup_cons.2 ⟨fun hm=>?_,h.nd⟩,fun i hi=>?_⟩
  ·simp only [tSheetLineS,Own]
   exact ⟨by omega,.inr ⟨id,_,_,rfl,h2,h3,ql_own h.ats⟩⟩
  ·obtain ⟨q,hq,hm⟩:=List.mem_flatMap.1 hm
   obtain ⟨rs,h4⟩:=own_str1 (h.ats q hq) id hm
   rw [h3] at h4
   cases h4
  ·rcases List.mem_cons.1 hi with rfl | hi
   ·exact .inr h1
   ·exact hwh i hi
theorem flat_len {α β:Type} {f:α→List β} {m:Nat}:∀ {l:List α},(∀ x∈l,(f x).length≤m)→(l.flatMap f).length≤l.length * m
 | [],_=>by simp
 | a::l,h=>by
  have:=flat_len (l:=l) fun x hx=>h x (by simp [hx])
  have:=h a (by simp)
  rw [List.flatMap_cons,List.length_append,List.length_cons,Nat.succ_mul]
  omega
theorem std_len {r:SheetRule} {ls:List SheetLine} (h:ls.length≤120):(stdOr r (ofR r.Key ls)).length≤120:=by
 unfold stdOr
 split
 ·simp
 ·exact Nat.le_trans (List.length_filter_le _ _) h
theorem FM.len {s1:Store} {L:List QL} {kind:List UInt8} {ls:List SheetLine} {g:GmJ} (h:FM s1 L kind ls g) (hl:ls.length≤120):g.M.length≤1440:=by
 have h1:=flat_len (l:=(rulesR kind).take g.j) (f:=fun r=>stdOr r (ofR r.Key ls)) (m:=120) fun r _=>std_len hl
 rw [← h.xs,List.length_map] at h1
 have h2:((rulesR kind).take g.j).length≤12:=by rw [List.length_take]; have:=(rules_small kind).1; omega
 have:=Nat.mul_le_mul_right 120 h2
 omega
theorem lines_ql {s:Store} {ls:List SheetLine} {lv:V} {js:List Nat} (h:Own s (tSheetLineS ls) lv js) (hn:js.Nodup):∃ L:List QL,L.map QL.x=ls∧QV s L lv∧(∀ q∈L,q.at s)∧(L.flatMap QL.is).Nodup∧∀ q∈L,∀ i∈q.is,i∈js:=by
 simp only [tSheetLineS,Own] at h
 obtain ⟨_,⟨h0,rfl,h1⟩ | ⟨id,js0,rs,rfl,rfl,h1,h2⟩⟩:=h
 ·have hl:ls=[]:=by simpa using h0
  exact ⟨[],by rw [hl]; rfl,.inl ⟨rfl,h1⟩,by simp,by simp,by simp⟩
 ·obtain ⟨L,rfl,rfl,rfl,h3⟩:=ql_of h2
  refine ⟨L,rfl,.inr ⟨id,by rw [List.length_map],h1⟩,h3,(List.nodup_cons.1 hn).2,fun q hq i hi=>?_⟩
  exact List.mem_cons_of_mem _ (List.mem_flatMap.2 ⟨q,hq,hi⟩)
structure GbJ where
 i:Nat
 s:Store
 is:List Nat
theorem rules_d5 {kind:List UInt8} {x:SheetRule} (h:x∈rulesR kind):x.Default.length≤5:=by
 have hsmall:=List.all_eq_true.1 (rules_small kind).2 x h
 simp only [ruleSmall,yB,decide_eq_true_eq] at hsmall
 exact hsmall.1.2
theorem wi_perm {is:List Nat} {is':List Nat} (p:is'.Perm is) (h:is.Nodup) {a b:Nat} (k:∀ i∈is,a≤i∧i<b):Wi is' a b :=
 ⟨p.nodup_iff.2 h,fun i hi=>k i (p.mem_iff.1 hi)⟩
def c_impl_SheetFill:C:=(.seq (.ops [⟨some 1,none,.box (.t 0)⟩,⟨some 2,none,.new [.nils]⟩]) (.seq (.seq (.ops [⟨some 10,none,.load (some 1) (.t 1)⟩,⟨some 11,none,.call (.c (.fn (.func 12) [])) [.t 10]⟩,⟨some 12,none,.un .not (.t 11)⟩]) (.cond (.t 12) (.seq (.ops [⟨some 13,none,.build [.nils] []⟩,⟨none,none,.store 1 (.t 2) (.t 13)⟩]) .ret) .skip)) (.seq (.ops [⟨some 14,none,.load (some 1) (.t 1)⟩,⟨some 15,none,.call (.c (.fn (.func 25) [])) [.t 14]⟩,⟨some 3,none,.new [.nils]⟩,⟨none,none,.store 1 (.t 3) (.t 15)⟩]) (.seq (.seq (.ops [⟨some 16,none,.fieldAddr 0 (.t 3)⟩,⟨some 17,none,.load none (.t 16)⟩,⟨some 18,none,.len false (.t 17)⟩,⟨some 19,none,.mv (.c (.t (.int .i64 0)))⟩]) (.block 0 (.loop (.seq (.ops [⟨some 20,none,.bin .lss (.t 19) (.t 18)⟩]) (.seq (.cond (.t 20) .skip (.exit 0)) (.seq (.block 1 (.seq (.ops [⟨some 21,none,.mv (.t 19)⟩,⟨some 4,none,.mv (.t 21)⟩]) (.seq (.ops [⟨some 22,none,.fieldAddr 0 (.t 3)⟩,⟨some 23,none,.load none (.t 22)⟩,⟨some 24,none,.mv (.t 4)⟩,⟨some 25,none,.indexAddr 3 (.t 23) (.t 24)⟩,⟨some 5,none,.mv (.t 25)⟩]) (.seq (.ops [⟨some 6,none,.mv (.c .nils)⟩]) (.seq (.seq (.ops [⟨some 26,none,.mv (.t 5)⟩,⟨some 27,none,.nilCheck (.t 26)⟩,⟨some 28,none,.fieldAddr 0 (.t 27)⟩,⟨some 29,none,.load none (.t 28)⟩,⟨some 30,none,.call (.c (.fn (.func 13) [])) [.t 29]⟩,⟨some 31,none,.len false (.t 30)⟩,⟨some 32,none,.mv (.c (.t (.int .i64 0)))⟩]) (.block 2 (.loop (.seq (.ops [⟨some 33,none,.bin .lss (.t 32) (.t 31)⟩]) (.seq (.cond (.t 33) .skip (.exit 2)) (.seq (.block 3 (.seq (.ops [⟨some 34,none,.indexAddr 4 (.t 30) (.t 32)⟩,⟨some 35,none,.load (some 4) (.t 34)⟩,⟨some 8,none,.new [.t (.str []),.nils,.t (.bool false),.nils]⟩,⟨none,none,.store 4 (.t 8) (.t 35)⟩]) (.seq (.drawn [.mk 0 false ⟨some 36,none,.mv (.t 5)⟩ [],.mk 1 false ⟨some 37,none,.nilCheck (.t 36)⟩ [],.mk 2 false ⟨some 38,none,.load (some 3) (.t 37)⟩ [],.mk 3 false ⟨some 39,none,.fieldAddr 0 (.t 8)⟩ [],.mk 4 false ⟨some 40,none,.load none (.t 39)⟩ [],.mk 5 false ⟨some 41,none,.call (.c (.fn (.func 26) [])) [.t 38,.t 40]⟩ [],.mk 6 false ⟨some 9,none,.mv (.t 41)⟩ []]) (.seq (.seq (.ops [⟨some 42,none,.mv (.t 9)⟩,⟨some 43,none,.len false (.t 42)⟩,⟨some 44,none,.bin .eql (.t 43) (.c (.t (.int .i64 0)))⟩,⟨some 45,none,.mv (.t 44)⟩,⟨some 46,some ⟨45,true⟩,.fieldAddr 2 (.t 8)⟩,⟨some 47,some ⟨45,true⟩,.load none (.t 46)⟩,⟨some 48,some ⟨45,true⟩,.un .not (.t 47)⟩,⟨some 49,none,.pick (.t 45) (.t 48) (.c (.t (.bool false)))⟩]) (.cond (.t 49) (.ops [⟨some 50,none,.load (some 4) (.t 8)⟩,⟨some 51,none,.call (.c (.fn (.func 27) [])) [.t 50]⟩,⟨some 52,none,.lit none 2 1 [.t (.str []),.nils] [⟨0,.t 51⟩]⟩,⟨some 9,none,.mv (.t 52)⟩]) .skip)) (.ops [⟨some 53,none,.mv (.t 6)⟩,⟨some 54,none,.mv (.t 9)⟩,⟨some 55,none,.append 2 40 (.t 53) (.t 54)⟩,⟨some 6,none,.mv (.t 55)⟩]))))) (.ops [⟨some 56,none,.bin .add (.t 32) (.c (.t (.int .i64 1)))⟩,⟨some 32,none,.mv (.t 56)⟩]))))))) (.ops [⟨some 57,none,.mv (.t 5)⟩,⟨some 58,none,.mv (.t 6)⟩,⟨some 59,none,.nilCheck (.t 57)⟩,⟨some 60,none,.fieldAddr 2 (.t 59)⟩,⟨none,none,.store 1 (.t 60) (.t 58)⟩])))))) (.ops [⟨some 61,none,.bin .add (.t 19) (.c (.t (.int .i64 1)))⟩,⟨some 19,none,.mv (.t 61)⟩]))))))) (.seq (.ops [⟨some 62,none,.load (some 1) (.t 3)⟩,⟨none,none,.store 1 (.t 2) (.t 62)⟩]) .ret)))))
theorem k_impl_SheetFill:comp Tryd.prog 63 (Tryd.f6.body.getD .skip)=some c_impl_SheetFill:=by kernel_rfl
set_option maxHeartbeats 16000000 in
set_option maxRecDepth 20000 in
theorem impl_SheetFill0 (s:Sheet) (hs:s.Ok) (σ:Store):ACalls Tryd.prog 6 [.agg s.vs] σ (ToLR (fillS s).ts σ):=by
 refine acalls_of Tryd.func6 (by decide +kernel) (code:=Tryd.f6.body.getD .skip) (n:=63) (c:=c_impl_SheetFill) (rs:=[(.cell 2 (some 1))]) rfl rfl k_impl_SheetFill (by kernel_rfl) (by simp) (fun hσ=>?_)
 simp -implicitDefEqProofs only [c_impl_SheetFill,Sheet.vs,zZ,zA,zB,zC,zD,zE,zG,zH,zI,zJ,zK,if_true,if_false,reduceCtorEq,zW,zX,zY,za,zb]
 have hvs:=impl_SheetValid s hs
 simp only [Sheet.vs] at hvs
 refine call_pure (hvs _) ?_
 rcases hv:sheetR s with _ | _
 ·simp -implicitDefEqProofs only [cond_t,cond_f,Bool.not_false,zZ,zA,zB,zC,zD,zE,zG,zH,zI,zJ,zK,if_true,if_false,reduceCtorEq,zW,zX,zY,za,zb]
  refine fin_keep (by simp) ⟨_,_,[],rfl,rfl,?_,Wi.nil⟩
  have:(fillS s).ts=[.lst 3 []]:=by rw [fillS,hv]; rfl
  rw [this]
  simp only [OwnL,Own]
  exact ⟨_,_,[],[],rfl,rfl,⟨by omega,.inl ⟨trivial,rfl,.inl rfl⟩⟩,rfl,rfl⟩
 obtain ⟨h60,hbl⟩:=sheet_blocks hv
 have hts:(fillS s).ts=[.lst 3 ((s.Blocks.map fillB).map SheetBlock.ts)]:=by rw [fillS,hv]; rfl
 simp -implicitDefEqProofs only [cond_t,cond_f,Bool.not_true,zZ,zA,zB,zC,zD,zE,zG,zH,zI,zJ,zK,if_true,if_false,reduceCtorEq,zW,zX,zY,za,zb]
 obtain ⟨bs,hbsd⟩:∃ bs,bs=s.Blocks:=⟨_,rfl⟩
 have hbs:=hs.Blocks
 rw [← hbsd] at hbs hts hbl h60 ⊢
 refine call_newL (impl_clone_sheet bs hbs _) ?_
 intro us s0 is0 hl0 hk0 ho0 hw0
 simp only [OwnL] at ho0
 obtain ⟨v0,_,is1,_,rfl,rfl,hf0,rfl,rfl⟩:=ho0
 rw [List.append_nil] at hw0
 simp only [zt,zj,zk] at hl0 hw0
 have on0:=hf0.one
 have e2:s0[σ.length+1]?=some (.box [.nils]):=hk0.box (by simp)
 have K0:Kp σ s0:=fun x hx=>by rw [hk0 x (by simp; omega),List.getElem?_append_left hx]
 simp -implicitDefEqProofs only [e2,on0,one_cells on0,zZ,zA,zB,zC,zD,zE,zG,zH,zI,zJ,zK,if_true,if_false,reduceCtorEq,zW,zX,zY,za,zb]
 obtain ⟨X,hX⟩:∃ X,X=s0.length:=⟨_,rfl⟩
 obtain ⟨B,hB⟩:∃ B,B=s0++[Go.Ab.Obj.box [v0]]:=⟨_,rfl⟩
 have hBl:B.length=X+1:=by rw [hB,hX]; simp
 have hBX:B[X]?=some (.box [v0]):=by rw [hB,hX]; simp
 have hBf:Own B (tSheetBlockS bs) v0 is1:=by rw [hB]; exact (Kp.app s0 _).own hf0
 have hBk:Kp σ B:=by rw [hB]; exact kp_app2 K0
 have hB2:B[σ.length+1]?=some (.box [.nils]):=by rw [hB,List.getElem?_append_left (by omega)]; exact e2
 have hlv:=own_len2 hf0
 simp only [zH,zh] at hlv
 rw [← hB,← hX]
 simp -implicitDefEqProofs only [hBX,hlv,zZ,zA,zB,zC,zD,zE,zG,zH,zI,zJ,zK,if_true,if_false,reduceCtorEq,zW,zX,zY,za,zb]
 refine loop_g [19,2,3,18] [2,3,18] (fun g:GbJ=>[(19,.t (.int .i64 (g.i:Nat)))]) GbJ.s (fun g=>g.i≤bs.length∧Kp σ g.s∧X+1≤g.s.length∧Own g.s (tSheetBlockS (curB bs g.i)) v0 g.is∧Wi g.is (σ.length+2) g.s.length∧g.s[X]?=some (.box [v0])∧g.s[σ.length+1]?=some (.box [.nils])) (fun g=>bs.length - g.i) ⟨0,B,is1⟩ (by omega) ⟨Nat.zero_le _,hBk,by first | omega | (simp only; omega),by simpa [curB] using hBf,hw0.mono (by omega) (by simp only; omega),hBX,hB2⟩ rfl rfl ?_
 rintro ⟨i,s1,is⟩ ⟨hi,hkp,hle,ho,hw,eX,e2'⟩
 simp only at hi hkp hle ho hw eX e2'
 simp -implicitDefEqProofs only [keep,on0,zZ,zA,zB,zC,zD,zE,zG,zH,zI,zJ,zK,if_true,if_false,reduceCtorEq,zW,zX,zY,za,zb]
 refine cond_split (fun h1=>?_) (fun h1=>?_)
 ·obtain ⟨b,hb,hlt⟩:=at_of h1
  have hbo:=hbs.2 b (List.mem_of_getElem? hb)
  obtain ⟨hkd,hln⟩:=hbl b (List.mem_of_getElem? hb)
  have hl120:=lines_bnd hln
  have more:=i64_succ (show i<4611686018427387904 by omega)
  have hri:((curB bs i).map SheetBlock.ts)[i]?=some b.ts:=by rw [List.getElem?_map,cur_at hb]; rfl
  obtain ⟨id,rs,u,js,rest,hve,hob,hrsl,hru,hou,hperm,hback⟩:=own_row ho hri
  rw [List.length_map,cur_len] at hve hrsl
  subst hve
  have hnd:=hperm.nodup_iff.1 hw.1
  have hidl:=(List.getElem?_eq_some_iff.1 hob).1
  have hrestl:∀ j∈rest,j<s1.length:=fun j hj=>ho.lt j (hperm.mem_iff.2 (by simp [hj]))
  simp only [SheetBlock.ts,OwnL] at hou
  obtain ⟨_,_,i1,j1,rfl,rfl,hs1,_,_,i2,j2,rfl,rfl,hs2,lv,_,i3,j3,rfl,rfl,hs3,rfl,rfl⟩:=hou
  simp only [Own] at hs1 hs2
  obtain ⟨rfl,rfl⟩:=hs1
  obtain ⟨rfl,rfl⟩:=hs2
  have hs3':Own s1 (tSheetLineS b.Lines) lv i3:=hs3
  simp only [zr,List.append_nil] at hperm hnd hback
  obtain ⟨hn1,hn2⟩:=List.nodup_cons.1 hnd
  obtain ⟨hn3,hn4,hn5⟩:=List.nodup_append.1 hn2
  obtain ⟨L,hLx,hLq,hLa,hLn,hLj⟩:=lines_ql hs3' hn3
  have hLl:L.length=b.Lines.length:=by rw [← hLx,List.length_map]
  have ol:=hLq.one
  have kx:((i:Nat):Int)<((bs.length:Nat):Int):=by omega
  have hks:kindOk b.Kind=true:=hkd
  simp -implicitDefEqProofs only [eX,hob,hrsl,hru,kx,ol,ze,zV,zd,zm,yA,zh,zZ,zA,zB,zC,zD,zE,zG,zH,zI,zJ,zK,if_true,if_false,reduceCtorEq,zW,zX,zY,za,zb]
  refine call_pure (impl_SheetRulesF b.Kind _) ?_
  obtain ⟨hn12,hsm⟩:=rules_small b.Kind
  rw [if_pos hks]
  simp -implicitDefEqProofs only [tSheetRuleS,zh,zZ,zA,zB,zC,zD,zE,zG,zH,zI,zJ,zK,if_true,if_false,reduceCtorEq,zW,zX,zY,za,zb]
  refine loop_g [6,32,2,3,5,18,19,30,31] [2,3,5,18,19,30,31] (fun g:GmJ=>[(6,g.v),(32,.t (.int .i64 (g.j:Nat)))]) GmJ.s (FM s1 L b.Kind b.Lines) (fun g=>(rulesR b.Kind).length - g.j) ⟨0,.nils,s1,[]⟩ (by omega) (FM.zero ..) rfl rfl ?_
  rintro ⟨j,v,s2,M⟩ hfm
  have hjle:j≤(rulesR b.Kind).length:=hfm.le
  have hov:OVl s1 2 (M.map QL.row) v s2:=hfm.ov
  have hMl:M.length≤1440:=hfm.len hl120
  have ov:=hov.one
  have hkp2:=hov.kp
  have hle2:=hov.le
  have hob2:s2[id]?=some (.slc 3 rs):=hkp2.box hob
  simp -implicitDefEqProofs only [keep,zh,tSheetRuleS,zZ,zA,zB,zC,zD,zE,zG,zH,zI,zJ,zK,if_true,if_false,reduceCtorEq,zW,zX,zY,za,zb]
  refine cond_split (fun h3=>?_) (fun h3=>?_)
  ·obtain ⟨r,hr,hltr⟩:=at_of h3
   have more2:=i64_succ (show j<4611686018427387904 by omega)
   have c1:0<1:=by omega
   have c2:0<2:=by omega
   have hob2x:∀ τ:Store,(s2++τ)[id]?=some (.slc 3 rs):=fun τ=>(Kp.app s2 τ).box hob2
   simp -implicitDefEqProofs only [hr,hob2,hob2x,hrsl,hru,kx,ol,ze,SheetRule.ts,SheetRule.vs,zV,zd,zm,yA,zh,zZ,zA,zB,zC,zD,zE,zG,zH,zI,zJ,zK,if_true,if_false,reduceCtorEq,zW,zX,zY,za,zb]
   obtain ⟨s3,hs3d⟩:∃ s3:Store,s3=s2++[Go.Ab.Obj.box [.t (.str r.Key),.t (.lst 1 (r.Args.map tInt)),.t (.bool r.Many),.t (.lst 1 (r.Default.map tStr))]]:=⟨_,rfl⟩
   have k23:Kp s2 s3:=by rw [hs3d]; exact Kp.app _ _
   have l23:s3.length=s2.length+1:=by rw [hs3d]; simp
   have bx3:s3[s2.length]?=some (.box [.t (.str r.Key),.t (.lst 1 (r.Args.map tInt)),.t (.bool r.Many),.t (.lst 1 (r.Default.map tStr))]):=by rw [hs3d]; simp
   rw [← hs3d]
   refine call_by (by rw [List.append_nil]; exact impl_ofV b.Kind b.Name r.Key L (by omega) (ql_one hLa) lv s3 ((hLq.kp hkp2).kp k23)) ?_
   intro w s4 hov4
   have ow:=hov4.one
   have lw:=hov4.len
   simp only [zH,zh] at lw
   have kp4:=hov4.kp
   have le4:=hov4.le
   have bx4:s4[s2.length]?=some (.box [.t (.str r.Key),.t (.lst 1 (r.Args.map tInt)),.t (.bool r.Many),.t (.lst 1 (r.Default.map tStr))]):=kp4.box bx3
   have k24:Kp s2 s4:=k23.trans (by omega) kp4
   have hrw:=hov4.rowsOf
   have hof:(ofQ r.Key L).map QL.x=ofR r.Key b.Lines:=by rw [ofQ_x,hLx]
   have hofl:(ofQ r.Key L).length=(ofR r.Key b.Lines).length:=by rw [← hof,List.length_map]
   have hof120:(ofQ r.Key L).length≤120:=by rw [hofl]; exact Nat.le_trans (List.length_filter_le _ _) hl120
   have oth:stdOr r (ofR r.Key b.Lines)=ofR r.Key b.Lines→∀ v' s6,s4.length≤s6.length→(∀ j,j<s4.length→(∀ g,v=.sl j g 0 g→False)→s6[j]?=s4[j]?)→OVl s1 2 (M.map QL.row++(ofQ r.Key L).map QL.row) v' s6→FM s1 L b.Kind b.Lines ⟨j+1,v',s6,M++ofQ r.Key L⟩:=fun hso v' s6 _ hkf hov6 =>
    hfm.next hr k24 (by omega) hkf hov6 (fun q hq=>k24.own (hkp2.own (hLa q (List.mem_filter.1 hq).1))) (nodup_filter hLn) (hfm.disA hr hLn hLa) (fun q hq=>.inl ⟨(List.mem_filter.1 hq).1,by simpa using (List.mem_filter.1 hq).2⟩) (by rw [hof,hso])
   simp -implicitDefEqProofs only [ow,lw,bx4,zV,zd,zm,yA,zh,zZ,zA,zB,zC,zD,zE,zG,zH,zI,zJ,zK,if_true,if_false,reduceCtorEq,zW,zX,zY,za,zb]
   refine cond_known (fun g1=>?_) (fun g1=>?_)
   ·rcases hm:r.Many with _ | _
    ·have hso:stdOr r (ofR r.Key b.Lines)=[⟨r.Key,r.Default⟩]:=by rw [stdOr,if_pos (by rw [← hofl,g1,hm]; rfl)]
     simp -implicitDefEqProofs only [g1,hm,cond_t,cond_f,Bool.not_false,bx4,zV,zd,zm,yA,zh,zZ,zA,zB,zC,zD,zE,zG,zH,zI,zJ,zK,if_true,if_false,reduceCtorEq,zW,zX,zY,za,zb]
     have hst:=impl_standard r (rules_d5 (List.mem_of_getElem? hr))
     simp only [SheetRule.vs,hm] at hst
     refine call_newL (hst _) ?_
     intro us s5 is5 hl5 kp5 ho5 hw5
     simp only [SheetLine.ts,OwnL] at ho5
     obtain ⟨_,_,a1,a2,rfl,rfl,hq1,w2,_,a3,a4,rfl,rfl,hq2,rfl,rfl⟩:=ho5
     simp only [Own] at hq1
     obtain ⟨rfl,rfl⟩:=hq1
     simp only [zr,List.append_nil] at hw5
     have ow2:=hq2.one
     have hrow:∀ s':Store,rowsOf s' 2 (.rows 2 [[V.t (.str r.Key),w2]])=some [[V.t (.str r.Key),w2]]:=fun s'=>rowsOf_rows (by simp only [List.all_cons,List.all_nil,ow2,Bool.and_true]; rfl)
     simp -implicitDefEqProofs only [ow2,c1,c2,zV,zd,zm,yA,zh,zZ,zA,zB,zC,zD,zE,zG,zH,zI,zJ,zK,if_true,if_false,reduceCtorEq,zW,zX,zY,za,zb]
     refine lit_rows ?_
     simp -implicitDefEqProofs only [hrow,ov,ow2,zZ,zA,zB,zC,zD,zE,zG,zH,zI,zJ,zK,if_true,if_false,reduceCtorEq,zW,zX,zY,za,zb]
     have k25:Kp s2 s5:=k24.trans (by omega) kp5
     refine (ovl_step hov k25 (by omega)).app (by simp only [zh,zj,zk,maxBy]; omega) (by simp only [zh,zj,zk]; omega) fun v' s6 hl6 hkf hv6=>?_
     simp -implicitDefEqProofs only [more2,zZ,zA,zB,zC,zD,zE,zG,zH,zI,zJ,zK,if_true,if_false,reduceCtorEq,zW,zX,zY,za,zb]
     have hq2':QL.at s5 ⟨⟨r.Key,r.Default⟩,w2,a3⟩:=hq2
     refine lk_g ⟨j+1,v',s6,M++[⟨⟨r.Key,r.Default⟩,w2,a3⟩]⟩ (by simp only; omega) (hfm.next (N:=[⟨⟨r.Key,r.Default⟩,w2,a3⟩]) hr k25 (by omega) hkf hv6 ?_ ?_ ?_ ?_ (by rw [hso]; rfl)) (by omega) rfl rfl
     ·intro q hq
      obtain rfl:=List.mem_singleton.1 hq
      exact hq2'
     ·simpa using hw5.1
     ·intro q hq p hp x hx hx2
      obtain rfl:=List.mem_singleton.1 hp
      have h7:=(hfm.ats q hq).lt x hx
      have h8:=hw5.2 x hx2
      simp only at h7
      omega
     ·intro q hq
      obtain rfl:=List.mem_singleton.1 hq
      exact .inr fun x hx=>by have:=hw5.2 x hx; omega
    ·have hso:stdOr r (ofR r.Key b.Lines)=ofR r.Key b.Lines:=by rw [stdOr,if_neg (by rw [hm]; simp)]
     simp -implicitDefEqProofs only [g1,hm,cond_t,cond_f,Bool.not_true,bx4,ow,hrw,ov,zV,zd,zm,yA,zh,zZ,zA,zB,zC,zD,zE,zG,zH,zI,zJ,zK,if_true,if_false,reduceCtorEq,zW,zX,zY,za,zb]
     refine (ovl_step hov k24 (by omega)).app (by simp only [zh,maxBy]; omega) (by simp only [zh]; omega) fun v' s6 hl6 hkf hv6=>?_
     simp -implicitDefEqProofs only [more2,zZ,zA,zB,zC,zD,zE,zG,zH,zI,zJ,zK,if_true,if_false,reduceCtorEq,zW,zX,zY,za,zb]
     exact lk_g ⟨j+1,v',s6,M++ofQ r.Key L⟩ (by simp only; omega) (oth hso v' s6 hl6 hkf hv6) (by omega) rfl rfl
   ·have hso:stdOr r (ofR r.Key b.Lines)=ofR r.Key b.Lines:=by rw [stdOr,if_neg (by rw [← hofl,g1]; simp)]
    simp -implicitDefEqProofs only [g1,cond_t,cond_f,bx4,ow,hrw,ov,zV,zd,zm,yA,zh,zZ,zA,zB,zC,zD,zE,zG,zH,zI,zJ,zK,if_true,if_false,reduceCtorEq,zW,zX,zY,za,zb]
    refine (ovl_step hov k24 (by omega)).app (by simp only [zh,maxBy]; omega) (by simp only [zh]; omega) fun v' s6 hl6 hkf hv6=>?_
    simp -implicitDefEqProofs only [more2,zZ,zA,zB,zC,zD,zE,zG,zH,zI,zJ,zK,if_true,if_false,reduceCtorEq,zW,zX,zY,za,zb]
    exact lk_g ⟨j+1,v',s6,M++ofQ r.Key L⟩ (by simp only; omega) (oth hso v' s6 hl6 hkf hv6) (by omega) rfl rfl
  ·have hjj:=end_of h3 hjle
   obtain ⟨js,hoj,hjn,hjw⟩:=hfm.own
   simp only at hoj
   have hxs:M.map QL.x=(fillB b).Lines:=by
    have:=hfm.xs
    simp only at this
    rw [hjj,List.take_length] at this
    rw [this,fillB_law hln]; rfl
   rw [hxs] at hoj
   have hfb:=fillB_law hln
   have hidr:id∉rest:=fun h=>hn1 (by simp [h])
   have hidj:id∉js:=fun h=>by
    rcases hjw id h with ⟨q,hq,hm⟩ | h
    ·exact hn1 (by simp [hLj q hq id hm])
    ·omega
   simp -implicitDefEqProofs only [hob2,hrsl,hru,kx,ov,one_cells ov,more,zV,zd,zm,yA,zh,zZ,zA,zB,zC,zD,zE,zG,zH,zI,zJ,zK,if_true,if_false,reduceCtorEq,zW,zX,zY,za,zb]
   obtain ⟨s6,hs6⟩:∃ s6:Store,s6=s2.set id (.slc 3 (rs.set i [.t (.str b.Kind),.t (.str b.Name),v])):=⟨_,rfl⟩
   have l6:s6.length=s2.length:=by rw [hs6,List.length_set]
   have k6:∀ p,p≠id→s6[p]?=s2[p]?:=fun p hp=>by rw [hs6,List.getElem?_set_ne (fun e=>hp e.symm)]
   obtain ⟨is6,ho6,hp6⟩:=hback s6 (fillB b).ts [.t (.str b.Kind),.t (.str b.Name),v] js (by rw [hs6]; exact List.getElem?_set_self (by omega)) (fun p hp=>by rw [k6 p (fun e=>hidr (e ▸ hp))]; exact hkp2 p (hrestl p hp)) (by
    have:=blk_own (b:=fillB b) (s:=s6) (v:=v) (js:=js) (hoj.frame fun p hp=>k6 p (fun e=>hidj (e ▸ hp)))
    rwa [show (fillB b).Kind=b.Kind by rw [hfb],show (fillB b).Name=b.Name by rw [hfb]] at this)
   have hcs:((curB bs i).map SheetBlock.ts).set i (fillB b).ts=(curB bs (i+1)).map SheetBlock.ts:=by rw [cur_step hb,List.map_set]
   rw [hcs] at ho6
   have nbx:∀ p c,s1[p]?=some (Go.Ab.Obj.box c)→s6[p]?=some (Go.Ab.Obj.box c):=fun p c hp=>by
    rw [k6 p (fun e=>by rw [e,hob] at hp; cases hp)]; exact hkp2.box hp
   have w6:Wi is6 (σ.length+2) s6.length:=by
    refine wi_perm hp6 ?_ fun p hp=>⟨?_,ho6.lt p (hp6.mem_iff.2 hp)⟩
    ·refine List.nodup_cons.2 ⟨fun h=>?_,List.nodup_append.2 ⟨hjn,hn4,fun x hx y hy e=>?_⟩⟩
     ·rcases List.mem_append.1 h with h | h
      ·exact hidj h
      ·exact hidr h
     ·subst e
      rcases hjw x hx with ⟨q,hq,hm⟩ | h
      ·exact hn5 x (hLj q hq x hm) x hy rfl
      ·have:=hrestl x hy; omega
    ·have old:∀ p,p∈id::(i3++rest)→σ.length+2≤p:=fun p hp=>(hw.2 p (hperm.mem_iff.2 hp)).1
     rcases List.mem_cons.1 hp with rfl | hp
     ·exact old _ (by simp)
     ·rcases List.mem_append.1 hp with hp | hp
      ·rcases hjw p hp with ⟨q,hq,hm⟩ | h
       ·exact old p (by simp [hLj q hq p hm])
       ·omega
      ·exact old p (by simp [hp])
   refine lk_g ⟨i+1,s6,is6⟩ (by simp only; omega) ⟨by simp only; omega,fun p hp=>?_,by simp only; omega,ho6,w6,nbx _ _ eX,nbx _ _ e2'⟩ (by first | omega | (rw [← hs6]; omega) | (simp only [zl]; omega)) (by rw [hs6]) rfl
   simp only
   rw [k6 p (fun e=>by have:=(hw.2 id (hperm.mem_iff.2 (by simp))).1; omega),hkp2 p (by omega)]
   exact hkp p hp
 ·have hii:=end_of h1 hi
  rw [hii,cur_all] at ho
  have e2t:∀ o:Go.Ab.Obj,(s1.set (σ.length+1) o)[σ.length+1]?=some o:=fun o=>List.getElem?_set_self (by omega)
  simp -implicitDefEqProofs only [eX,e2',e2t,on0,one_cells on0,zZ,zA,zB,zC,zD,zE,zG,zH,zI,zJ,zK,if_true,if_false,reduceCtorEq,zW,zX,zY,za,zb]
  refine fin_keep (by simp; omega) ⟨[v0],_,is,rfl,kp_split (hkp.set (by omega)) (by simp; omega),?_,hw.mono (by omega) (by simp)⟩
  rw [hts]
  simp only [OwnL]
  exact ⟨v0,[],is,[],rfl,by simp,set_own ho (own_box ho e2'),rfl,rfl⟩
end Go.Proofs.YtnnnemgbgilfaaaDoor.W
end
section
open Go Go.Ab
set_option maxHeartbeats 2000000
namespace Go.Proofs.YtnnnemgbgilfaaaDoor.W
theorem put_size (c:SheetBlock) (x:SheetLine):T.sizeL (putR c x).ts=T.sizeL c.ts+1+T.sizeL x.ts:=by
 have e:T.sizeR ((c.Lines.take (putIx c.Kind c.Lines x)).map SheetLine.ts)+T.sizeR ((c.Lines.drop (putIx c.Kind c.Lines x)).map SheetLine.ts)=T.sizeR (c.Lines.map SheetLine.ts):=by
  rw [← sizeR_app,← List.map_append,List.take_append_drop]
 have l:=put_len c x
 simp only [SheetBlock.ts,sizeSheetBlock,size_lst,zh,l]
 simp only [putR,List.map_append,sizeR_app,zu,zx,sizeR_cons,sizeR_nil]
 omega
end Go.Proofs.YtnnnemgbgilfaaaDoor.W
end
