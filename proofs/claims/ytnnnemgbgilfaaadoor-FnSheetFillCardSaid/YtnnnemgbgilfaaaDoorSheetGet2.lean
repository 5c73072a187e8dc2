/- What a sheet says of a key. Conditions: none. -/
import Derived.Test.YtnnnemgbgilfaaaDoorSheetFillP
set_option linter.unusedSimpArgs false
set_option linter.unusedVariables false
set_option linter.defProp false
open Bool renaming and_eq_true → yB
open Go.Ab renaming eget → zC, env0 → zD, isNilP → zI, isNilS → zJ, lenSl → zH, lenStr → zG, nat_nn → zV, opv → zA, opvs → zB, putAt → zK, setD → zE
open List renaming getElem?_map → zm, length_append → zt, length_cons → zj, length_map → zh, length_nil → zk, map_cons → zu, map_nil → zx, nil_append → zr
open Nat renaming reduceAdd → zb, reduceEqDiff → zX, reduceLeDiff → zW, reduceMul → za, reduceSub → zY, zero_le → zd
open Option renaming map_some → yA
open Go Go.Ab
set_option maxHeartbeats 2000000
namespace Go.Proofs.YtnnnemgbgilfaaaDoor.W
theorem frz_pair {P:Program} {f:FuncId} {args:List V} {σ:Store} {t:T} {b:Bool} (h:ACalls P f args σ fun r σ'=>∃ τ w,σ'=σ++τ∧r=.tup [w,.t (.bool b)]∧SeesF σ.length σ' t w):ACalls P f args σ fun r σ'=>r=.tup [.t t,.t (.bool b)]∧σ'=σ:=by
 refine acalls_frz (Q:=fun r=>r=.tup [.t t,.t (.bool b)]) (h.mono ?_)
 rintro r σ' ⟨τ,w,h1,rfl,h2⟩
 have h3:FzAs σ.length σ' [.t t,.t (.bool b)] [w,.t (.bool b)]:=by
  simp only [FzAs]
  exact ⟨_,_,rfl,.inl ⟨_,rfl,h2⟩,_,_,rfl,.inl ⟨_,rfl,seesF_t _⟩,rfl⟩
 exact ⟨τ,_,h1,.inr ⟨_,_,rfl,rfl,h3⟩,rfl⟩
def getL (b:SheetBlock) (x:SheetRule):List SheetLine:=if ((((ofR x.Key b.Lines).length:Nat):Int) == 0 && !x.Many)=true then [⟨x.Key,x.Default⟩] else ofR x.Key b.Lines
def defOk (x:SheetRule):Bool:=x.Many || !x.Default.isEmpty
theorem rules_def (kind:List UInt8):(rulesR kind).all defOk=true :=
 rulesR_cases (P:=fun l=>l.all defOk=true) kind rfl rfl rfl rfl
def getR (s:Sheet) (kind name key:List UInt8):List SheetLine × Bool:=if sheetR s=true then (match s.Blocks.find? (isB kind name),ruleOf kind key with
 | some b,some x=>(getL b x,true)
 | _,_=>([],false)) else ([],false)
theorem block_two (s:Sheet) (kind name:List UInt8):(blockIx s kind name=-1∧s.Blocks.find? (isB kind name)=none)∨∃ (i:Nat) (b:SheetBlock),s.Blocks[i]?=some b∧blockIx s kind name=(i:Nat)∧s.Blocks.find? (isB kind name)=some b:=by
 rcases find_i (isB kind name) s.Blocks 0 with h | ⟨i,x,h1,h2,h3⟩
 ·exact .inl h
 ·exact .inr ⟨i,x,h1,by rw [blockIx,h2,Nat.zero_add],h3⟩
theorem getR_bad {s:Sheet} {kind name key:List UInt8} (h:sheetR s=false∨s.Blocks.find? (isB kind name)=none∨ruleOf kind key=none):getR s kind name key=([],false):=by
 unfold getR
 rcases h with h | h | h
 ·rw [h]; rfl
 ·rw [h]; simp
 ·rw [h]; split <;> (try rfl); cases s.Blocks.find? (isB kind name) <;> rfl
theorem getR_good {s:Sheet} {kind name key:List UInt8} {b:SheetBlock} {x:SheetRule} (h:sheetR s=true) (hb:s.Blocks.find? (isB kind name)=some b) (hx:ruleOf kind key=some x):getR s kind name key=(getL b x,true):=by
 unfold getR
 rw [h,if_pos rfl,hb,hx]
def c_spec_SheetGet:C:=(.seq (.ops [⟨some 4,none,.box (.t 0)⟩,⟨some 8,none,.mv (.c .nils)⟩,⟨some 9,none,.mv (.c (.t (.bool false)))⟩]) (.seq (.ops [⟨some 14,none,.load (some 1) (.t 4)⟩,⟨some 15,none,.mv (.t 1)⟩,⟨some 16,none,.mv (.t 2)⟩,⟨some 17,none,.call (.c (.fn (.func 48) [])) [.t 14,.t 15,.t 16]⟩,⟨some 10,none,.mv (.t 17)⟩]) (.seq (.ops [⟨some 18,none,.mv (.t 1)⟩,⟨some 19,none,.mv (.t 3)⟩,⟨some 20,none,.call (.c (.fn (.func 36) [])) [.t 18,.t 19]⟩,⟨some 11,none,.mv (.t 20)⟩]) (.seq (.seq (.ops [⟨some 21,none,.load (some 1) (.t 4)⟩,⟨some 22,none,.call (.c (.fn (.func 11) [])) [.t 21]⟩,⟨some 23,none,.un .not (.t 22)⟩,⟨some 24,none,.mv (.t 23)⟩,⟨some 25,some ⟨24,false⟩,.mv (.t 10)⟩,⟨some 26,some ⟨24,false⟩,.bin .lss (.t 25) (.c (.t (.int .i64 0)))⟩,⟨some 27,none,.pick (.t 24) (.c (.t (.bool true))) (.t 26)⟩,⟨some 28,none,.mv (.t 27)⟩,⟨some 29,some ⟨28,false⟩,.mv (.t 11)⟩,⟨some 30,some ⟨28,false⟩,.bin .lss (.t 29) (.c (.t (.int .i64 0)))⟩,⟨some 31,none,.pick (.t 28) (.c (.t (.bool true))) (.t 30)⟩]) (.cond (.t 31) (.seq (.ops [⟨some 32,none,.lit none 2 0 [.t (.str []),.nils] []⟩,⟨some 8,none,.mv (.t 32)⟩,⟨some 9,none,.mv (.c (.t (.bool false)))⟩]) .ret) .skip)) (.seq (.ops [⟨some 33,none,.fieldAddr 0 (.t 4)⟩,⟨some 34,none,.load none (.t 33)⟩,⟨some 35,none,.mv (.t 10)⟩,⟨some 36,none,.indexAddr 3 (.t 34) (.t 35)⟩,⟨some 37,none,.load (some 3) (.t 36)⟩,⟨some 38,none,.mv (.t 3)⟩,⟨some 39,none,.call (.c (.fn (.func 34) [])) [.t 37,.t 38]⟩,⟨some 12,none,.mv (.t 39)⟩]) (.seq (.ops [⟨some 40,none,.mv (.t 1)⟩,⟨some 41,none,.call (.c (.fn (.func 33) [])) [.t 40]⟩,⟨some 42,none,.mv (.t 11)⟩,⟨some 43,none,.indexAddr 4 (.t 41) (.t 42)⟩,⟨some 44,none,.load (some 4) (.t 43)⟩,⟨some 13,none,.new [.t (.str []),.nils,.t (.bool false),.nils]⟩,⟨none,none,.store 4 (.t 13) (.t 44)⟩]) (.seq (.seq (.ops [⟨some 45,none,.mv (.t 12)⟩,⟨some 46,none,.len false (.t 45)⟩,⟨some 47,none,.bin .eql (.t 46) (.c (.t (.int .i64 0)))⟩,⟨some 48,none,.mv (.t 47)⟩,⟨some 49,some ⟨48,true⟩,.fieldAddr 2 (.t 13)⟩,⟨some 50,some ⟨48,true⟩,.load none (.t 49)⟩,⟨some 51,some ⟨48,true⟩,.un .not (.t 50)⟩,⟨some 52,none,.pick (.t 48) (.t 51) (.c (.t (.bool false)))⟩]) (.cond (.t 52) (.ops [⟨some 53,none,.mv (.t 3)⟩,⟨some 54,none,.lit none 1 0 [.t (.str [])] []⟩,⟨some 55,none,.fieldAddr 3 (.t 13)⟩,⟨some 56,none,.load none (.t 55)⟩,⟨some 57,none,.append 1 16 (.t 54) (.t 56)⟩,⟨some 58,none,.build [.t (.str []),.nils] [⟨0,⟨1,.t 53⟩⟩,⟨1,⟨1,.t 57⟩⟩]⟩,⟨some 59,none,.lit none 2 1 [.t (.str []),.nils] [⟨0,.t 58⟩]⟩,⟨some 12,none,.mv (.t 59)⟩]) .skip)) (.seq (.ops [⟨some 60,none,.mv (.t 12)⟩,⟨some 8,none,.mv (.t 60)⟩,⟨some 9,none,.mv (.c (.t (.bool true)))⟩]) .ret))))))))
theorem k_spec_SheetGet:comp Tryd.prog 61 (Tryd.f17.body.getD .skip)=some c_spec_SheetGet:=by kernel_rfl
set_option maxHeartbeats 8000000 in
theorem spec_SheetGet0 (s:Sheet) (hs:s.Ok) (kind name key:List UInt8) (σ:Store):ACalls Tryd.prog 17 [.agg s.vs,.t (.str kind),.t (.str name),.t (.str key)] σ fun r σ'=>r=.tup [.t (tSheetLineS (getR s kind name key).1),.t (.bool (getR s kind name key).2)]∧σ'=σ:=by
 refine frz_pair ?_
 refine acalls_of Tryd.func17 (by decide +kernel) (code:=Tryd.f17.body.getD .skip) (n:=61) (c:=c_spec_SheetGet) (rs:=[(.tmp 8),(.tmp 9)]) rfl rfl k_spec_SheetGet (by kernel_rfl) (by simp) (fun hσ=>?_)
 have c2:0<2:=by omega
 simp -implicitDefEqProofs only [c_spec_SheetGet,zV,zd,zm,yA,zh,SheetBlock.ts,SheetBlock.vs,SheetRule.ts,SheetRule.vs,Sheet.vs,zZ,zA,zB,zC,zD,zE,zG,zH,zI,zJ,zK,if_true,if_false,reduceCtorEq,zW,zX,zY,za,zb]
 refine call_pure (spec_l39Find s hs kind name _) ?_
 simp -implicitDefEqProofs only [zV,zd,zm,yA,zh,SheetBlock.ts,SheetBlock.vs,SheetRule.ts,SheetRule.vs,Sheet.vs,zZ,zA,zB,zC,zD,zE,zG,zH,zI,zJ,zK,if_true,if_false,reduceCtorEq,zW,zX,zY,za,zb]
 refine call_pure (spec_l38Rule kind key _) ?_
 simp -implicitDefEqProofs only [zV,zd,zm,yA,zh,SheetBlock.ts,SheetBlock.vs,SheetRule.ts,SheetRule.vs,Sheet.vs,zZ,zA,zB,zC,zD,zE,zG,zH,zI,zJ,zK,if_true,if_false,reduceCtorEq,zW,zX,zY,za,zb]
 refine call_pure (spec_SheetValid s hs _) ?_
 rcases hv:sheetR s with _ | _
 ·rw [getR_bad (.inl hv)]
  simp -implicitDefEqProofs only [c2,cond_t,cond_f,zV,zd,zm,yA,zh,SheetBlock.ts,SheetBlock.vs,SheetRule.ts,SheetRule.vs,Sheet.vs,zZ,zA,zB,zC,zD,zE,zG,zH,zI,zJ,zK,if_true,if_false,reduceCtorEq,zW,zX,zY,za,zb]
  refine lit_rows ?_
  simp -implicitDefEqProofs only [zV,zd,zm,yA,zh,SheetBlock.ts,SheetBlock.vs,SheetRule.ts,SheetRule.vs,Sheet.vs,zZ,zA,zB,zC,zD,zE,zG,zH,zI,zJ,zK,if_true,if_false,reduceCtorEq,zW,zX,zY,za,zb]
  refine fin_keep (by simp) ⟨_,.rows 2 [],rfl,rfl,?_⟩
  exact seesF_rowsv (rows:=[]) (by omega)
 rcases block_two s kind name with ⟨hi,hb⟩ | ⟨i,b,hgb,hi,hb⟩
 ·rw [getR_bad (.inr (.inl hb)),hi]
  have d1:decide ((-1:Int)<0)=true:=rfl
  simp -implicitDefEqProofs only [c2,d1,cond_t,cond_f,zV,zd,zm,yA,zh,SheetBlock.ts,SheetBlock.vs,SheetRule.ts,SheetRule.vs,Sheet.vs,zZ,zA,zB,zC,zD,zE,zG,zH,zI,zJ,zK,if_true,if_false,reduceCtorEq,zW,zX,zY,za,zb]
  refine lit_rows ?_
  simp -implicitDefEqProofs only [zV,zd,zm,yA,zh,SheetBlock.ts,SheetBlock.vs,SheetRule.ts,SheetRule.vs,Sheet.vs,zZ,zA,zB,zC,zD,zE,zG,zH,zI,zJ,zK,if_true,if_false,reduceCtorEq,zW,zX,zY,za,zb]
  refine fin_keep (by simp) ⟨_,.rows 2 [],rfl,rfl,?_⟩
  exact seesF_rowsv (rows:=[]) (by omega)
 rcases rule_two kind key with ⟨hj,hr⟩ | ⟨j,x,hgx,hj,hr⟩
 ·rw [getR_bad (.inr (.inr hr)),hi,hj]
  have d1:decide ((-1:Int)<0)=true:=rfl
  have d2:decide (((i:Nat):Int)<0)=false:=by simp
  simp -implicitDefEqProofs only [c2,d1,d2,cond_t,cond_f,zV,zd,zm,yA,zh,SheetBlock.ts,SheetBlock.vs,SheetRule.ts,SheetRule.vs,Sheet.vs,zZ,zA,zB,zC,zD,zE,zG,zH,zI,zJ,zK,if_true,if_false,reduceCtorEq,zW,zX,zY,za,zb]
  refine lit_rows ?_
  simp -implicitDefEqProofs only [zV,zd,zm,yA,zh,SheetBlock.ts,SheetBlock.vs,SheetRule.ts,SheetRule.vs,Sheet.vs,zZ,zA,zB,zC,zD,zE,zG,zH,zI,zJ,zK,if_true,if_false,reduceCtorEq,zW,zX,zY,za,zb]
  refine fin_keep (by simp) ⟨_,.rows 2 [],rfl,rfl,?_⟩
  exact seesF_rowsv (rows:=[]) (by omega)
 rw [getR_good hv hb hr,hi,hj]
 obtain ⟨hxi,hxk⟩:=rule_in hr
 have hbo:=hs.Blocks.2 b (List.mem_of_getElem? hgb)
 have d2:decide (((i:Nat):Int)<0)=false:=by simp
 have d3:decide (((j:Nat):Int)<0)=false:=by simp
 simp -implicitDefEqProofs only [c2,d2,d3,hgb,cond_t,cond_f,zV,zd,zm,yA,zh,SheetBlock.ts,SheetBlock.vs,SheetRule.ts,SheetRule.vs,Sheet.vs,zZ,zA,zB,zC,zD,zE,zG,zH,zI,zJ,zK,if_true,if_false,reduceCtorEq,zW,zX,zY,za,zb]
 refine call_pure (spec_l41Of b hbo key _) ?_
 simp -implicitDefEqProofs only [zV,zd,zm,yA,zh,SheetBlock.ts,SheetBlock.vs,SheetRule.ts,SheetRule.vs,Sheet.vs,zZ,zA,zB,zC,zD,zE,zG,zH,zI,zJ,zK,if_true,if_false,reduceCtorEq,zW,zX,zY,za,zb]
 refine call_pure (spec_SheetRules kind _) ?_
 simp -implicitDefEqProofs only [hgx,zV,zd,zm,yA,zh,SheetBlock.ts,SheetBlock.vs,SheetRule.ts,SheetRule.vs,Sheet.vs,zZ,zA,zB,zC,zD,zE,zG,zH,zI,zJ,zK,if_true,if_false,reduceCtorEq,zW,zX,zY,za,zb]
 have hdef:=List.all_eq_true.1 (rules_def kind) x hxi
 have hsmall:=List.all_eq_true.1 (rules_small kind).2 x hxi
 simp only [ruleSmall,yB,decide_eq_true_eq] at hsmall
 have hd5:=hsmall.1.2
 have b1:x.Default.length * 16≤maxBy:=by simp only [maxBy]; omega
 have b2:x.Default.length≤9223372036854775807:=by omega
 have c1:0<1:=by omega
 have done1:∀ τ:Store,getL b x=ofR key b.Lines→retV σ.length (fun r σ'=>∃ τ w,σ'=σ++τ∧r=.tup [w,.t (.bool true)]∧SeesF σ.length σ' (tSheetLineS (getL b x)) w) (σ++τ) (some [.t (tSheetLineS (ofR key b.Lines)),.t (.bool true)]):=fun τ h=>fin_keep (by simp) ⟨τ,_,rfl,rfl,by rw [h]; exact seesF_t _⟩
 subst hxk
 refine cond_known (fun g1=>?_) (fun g1=>?_)
 ·rcases hm:x.Many with _ | _
  ·have hg:getL b x=[⟨x.Key,x.Default⟩]:=by rw [getL,if_pos (by rw [g1,hm]; rfl)]
   have hdn:x.Default≠[]:=by
    intro e
    rw [defOk,hm,e] at hdef
    cases hdef
   simp -implicitDefEqProofs only [g1,hm,c1,c2,cond_t,cond_f,zV,zd,zm,yA,zh,SheetBlock.ts,SheetBlock.vs,SheetRule.ts,SheetRule.vs,Sheet.vs,zZ,zA,zB,zC,zD,zE,zG,zH,zI,zJ,zK,if_true,if_false,reduceCtorEq,zW,zX,zY,za,zb]
   refine lit_rows ?_
   simp -implicitDefEqProofs only [b1,b2,zV,zd,zm,yA,zh,SheetBlock.ts,SheetBlock.vs,SheetRule.ts,SheetRule.vs,Sheet.vs,zZ,zA,zB,zC,zD,zE,zG,zH,zI,zJ,zK,if_true,if_false,reduceCtorEq,zW,zX,zY,za,zb]
   refine ⟨fun e=>absurd e (by simpa using hdn),fun _=>?_⟩
   refine And.intro (by decide) ?_
   refine lit_rows ?_
   simp -implicitDefEqProofs only [zV,zd,zm,yA,zh,SheetBlock.ts,SheetBlock.vs,SheetRule.ts,SheetRule.vs,Sheet.vs,zZ,zA,zB,zC,zD,zE,zG,zH,zI,zJ,zK,if_true,if_false,reduceCtorEq,zW,zX,zY,za,zb]
   refine fin_keep (by simp) ⟨_,_,rfl,rfl,?_⟩
   rw [hg]
   simp only [SeesF]
   refine .inr ⟨by omega,(fun _ _ _ _ e=>by cases e),_,rowsOf_rows rfl,?_⟩
   simp only [zu,zx,SeesFR,SheetLine.ts,SeesFL]
   refine ⟨_,_,rfl,⟨_,_,rfl,by simp only [SeesF],_,_,rfl,seesF_rows (by omega) (by omega) ?_ (by simp),rfl⟩,rfl⟩
   rw [q_app_get]; rfl
  ·have hg:getL b x=ofR x.Key b.Lines:=by rw [getL,if_neg (by rw [hm]; simp)]
   simp -implicitDefEqProofs only [g1,hm,c1,c2,cond_t,cond_f,zV,zd,zm,yA,zh,SheetBlock.ts,SheetBlock.vs,SheetRule.ts,SheetRule.vs,Sheet.vs,zZ,zA,zB,zC,zD,zE,zG,zH,zI,zJ,zK,if_true,if_false,reduceCtorEq,zW,zX,zY,za,zb]
   exact done1 _ hg
 ·have hg:getL b x=ofR x.Key b.Lines:=by rw [getL,if_neg (by rw [g1]; simp)]
  simp -implicitDefEqProofs only [g1,c1,c2,cond_t,cond_f,zV,zd,zm,yA,zh,SheetBlock.ts,SheetBlock.vs,SheetRule.ts,SheetRule.vs,Sheet.vs,zZ,zA,zB,zC,zD,zE,zG,zH,zI,zJ,zK,if_true,if_false,reduceCtorEq,zW,zX,zY,za,zb]
  exact done1 _ hg
theorem own_lenSl {s:Store} {n:Nat} {rows:List (List T)} {w:V} {is:List Nat} (h:Own s (.lst n rows) w is):lenSl w=some rows.length:=by
 simp only [Own] at h
 obtain ⟨_,⟨rfl,rfl,rfl | rfl⟩ | ⟨id,js,rs,rfl,rfl,_,h2⟩⟩:=h
 ·rfl
 ·rfl
 ·rw [h2.len]; rfl
def PairR (t:T) (b:Bool) (σ:Store) (r:V) (σ':Store):Prop:=∃ w τ is,r=.tup [w,.t (.bool b)]∧σ'=σ++τ∧Own σ' t w is∧Wi is σ.length σ'.length
def c_impl_SheetGet:C:=(.seq (.ops [⟨some 4,none,.box (.t 0)⟩,⟨some 8,none,.mv (.c .nils)⟩,⟨some 9,none,.mv (.c (.t (.bool false)))⟩]) (.seq (.ops [⟨some 14,none,.load (some 1) (.t 4)⟩,⟨some 15,none,.mv (.t 1)⟩,⟨some 16,none,.mv (.t 2)⟩,⟨some 17,none,.call (.c (.fn (.func 44) [])) [.t 14,.t 15,.t 16]⟩,⟨some 10,none,.mv (.t 17)⟩]) (.seq (.ops [⟨some 19,none,.mv (.t 1)⟩,⟨some 20,none,.mv (.t 3)⟩,⟨some 21,none,.call (.c (.fn (.func 30) [])) [.t 19,.t 20]⟩,⟨some 18,none,.mv (.t 21)⟩,⟨some 22,none,.extract (.t 18) 0⟩,⟨some 23,none,.extract (.t 18) 1⟩,⟨some 11,none,.new [.t (.str []),.nils,.t (.bool false),.nils]⟩,⟨none,none,.store 4 (.t 11) (.t 22)⟩,⟨some 12,none,.mv (.t 23)⟩]) (.seq (.seq (.ops [⟨some 24,none,.mv (.t 10)⟩,⟨some 25,none,.bin .lss (.t 24) (.c (.t (.int .i64 0)))⟩,⟨some 26,none,.mv (.t 25)⟩,⟨some 27,some ⟨26,false⟩,.mv (.t 12)⟩,⟨some 28,some ⟨26,false⟩,.bin .lss (.t 27) (.c (.t (.int .i64 0)))⟩,⟨some 29,none,.pick (.t 26) (.c (.t (.bool true))) (.t 28)⟩,⟨some 30,none,.mv (.t 29)⟩,⟨some 31,some ⟨30,false⟩,.load (some 1) (.t 4)⟩,⟨some 32,some ⟨30,false⟩,.call (.c (.fn (.func 12) [])) [.t 31]⟩,⟨some 33,some ⟨30,false⟩,.un .not (.t 32)⟩,⟨some 34,none,.pick (.t 30) (.c (.t (.bool true))) (.t 33)⟩]) (.cond (.t 34) (.seq (.ops [⟨some 8,none,.mv (.c .nils)⟩,⟨some 9,none,.mv (.c (.t (.bool false)))⟩]) .ret) .skip)) (.seq (.ops [⟨some 35,none,.fieldAddr 0 (.t 4)⟩,⟨some 36,none,.load none (.t 35)⟩,⟨some 37,none,.mv (.t 10)⟩,⟨some 38,none,.indexAddr 3 (.t 36) (.t 37)⟩,⟨some 39,none,.load (some 3) (.t 38)⟩,⟨some 40,none,.mv (.t 3)⟩,⟨some 41,none,.call (.c (.fn (.func 26) [])) [.t 39,.t 40]⟩,⟨some 42,none,.call (.c (.fn (.func 45) [])) [.t 41]⟩,⟨some 13,none,.mv (.t 42)⟩]) (.seq (.seq (.ops [⟨some 43,none,.mv (.t 13)⟩,⟨some 44,none,.len false (.t 43)⟩,⟨some 45,none,.bin .eql (.t 44) (.c (.t (.int .i64 0)))⟩,⟨some 46,none,.mv (.t 45)⟩,⟨some 47,some ⟨46,true⟩,.fieldAddr 2 (.t 11)⟩,⟨some 48,some ⟨46,true⟩,.load none (.t 47)⟩,⟨some 49,some ⟨46,true⟩,.un .not (.t 48)⟩,⟨some 50,none,.pick (.t 46) (.t 49) (.c (.t (.bool false)))⟩]) (.cond (.t 50) (.ops [⟨some 51,none,.load (some 4) (.t 11)⟩,⟨some 52,none,.call (.c (.fn (.func 27) [])) [.t 51]⟩,⟨some 53,none,.lit none 2 1 [.t (.str []),.nils] [⟨0,.t 52⟩]⟩,⟨some 13,none,.mv (.t 53)⟩]) .skip)) (.seq (.ops [⟨some 54,none,.mv (.t 13)⟩,⟨some 8,none,.mv (.t 54)⟩,⟨some 9,none,.mv (.c (.t (.bool true)))⟩]) .ret)))))))
theorem k_impl_SheetGet:comp Tryd.prog 55 (Tryd.f14.body.getD .skip)=some c_impl_SheetGet:=by kernel_rfl
set_option maxHeartbeats 8000000 in
theorem impl_SheetGet0 (s:Sheet) (hs:s.Ok) (kind name key:List UInt8) (σ:Store):ACalls Tryd.prog 14 [.agg s.vs,.t (.str kind),.t (.str name),.t (.str key)] σ (PairR (tSheetLineS (getR s kind name key).1) (getR s kind name key).2 σ):=by
 refine acalls_of Tryd.func14 (by decide +kernel) (code:=Tryd.f14.body.getD .skip) (n:=55) (c:=c_impl_SheetGet) (rs:=[(.tmp 8),(.tmp 9)]) rfl rfl k_impl_SheetGet (by kernel_rfl) (by simp) (fun hσ=>?_)
 have c2:0<2:=by omega
 have bad:∀ τ:Store,getR s kind name key=([],false)→retV σ.length (PairR (tSheetLineS (getR s kind name key).1) (getR s kind name key).2 σ) (σ++τ) (some [.nils,.t (.bool false)]):=fun τ h=>by
  rw [h]
  exact fin_keep (by simp) ⟨.nils,τ,[],rfl,rfl,by simp [Own],Wi.nil⟩
 simp -implicitDefEqProofs only [c_impl_SheetGet,zV,zd,zm,yA,zh,SheetBlock.ts,SheetBlock.vs,SheetRule.ts,SheetRule.vs,Sheet.vs,zZ,zA,zB,zC,zD,zE,zG,zH,zI,zJ,zK,if_true,if_false,reduceCtorEq,zW,zX,zY,za,zb]
 refine call_pure (_impl_Sheet__at s hs kind name _) ?_
 simp -implicitDefEqProofs only [zV,zd,zm,yA,zh,SheetBlock.ts,SheetBlock.vs,SheetRule.ts,SheetRule.vs,Sheet.vs,zZ,zA,zB,zC,zD,zE,zG,zH,zI,zJ,zK,if_true,if_false,reduceCtorEq,zW,zX,zY,za,zb]
 refine call_pure (impl_find kind key _) ?_
 obtain ⟨a1,a2,a3,a4,ea,oa1,oa2,oa3,oa4⟩:=ruleV4 (ruleOf kind key)
 rw [ea]
 simp -implicitDefEqProofs only [oa1,oa2,oa3,oa4,zV,zd,zm,yA,zh,SheetBlock.ts,SheetBlock.vs,SheetRule.ts,SheetRule.vs,Sheet.vs,zZ,zA,zB,zC,zD,zE,zG,zH,zI,zJ,zK,if_true,if_false,reduceCtorEq,zW,zX,zY,za,zb]
 rcases block_two s kind name with ⟨hi,hb⟩ | ⟨i,b,hgb,hi,hb⟩
 ·rw [hi]
  have d1:decide ((-1:Int)<0)=true:=rfl
  simp -implicitDefEqProofs only [d1,cond_t,cond_f,zV,zd,zm,yA,zh,SheetBlock.ts,SheetBlock.vs,SheetRule.ts,SheetRule.vs,Sheet.vs,zZ,zA,zB,zC,zD,zE,zG,zH,zI,zJ,zK,if_true,if_false,reduceCtorEq,zW,zX,zY,za,zb]
  exact bad _ (getR_bad (.inr (.inl hb)))
 rcases rule_two kind key with ⟨hj,hr⟩ | ⟨j,x,hgx,hj,hr⟩
 ·rw [hi,hj]
  have d1:decide ((-1:Int)<0)=true:=rfl
  have d2:decide (((i:Nat):Int)<0)=false:=by simp
  simp -implicitDefEqProofs only [d1,d2,cond_t,cond_f,zV,zd,zm,yA,zh,SheetBlock.ts,SheetBlock.vs,SheetRule.ts,SheetRule.vs,Sheet.vs,zZ,zA,zB,zC,zD,zE,zG,zH,zI,zJ,zK,if_true,if_false,reduceCtorEq,zW,zX,zY,za,zb]
  exact bad _ (getR_bad (.inr (.inr hr)))
 rw [hi,hj]
 have d2:decide (((i:Nat):Int)<0)=false:=by simp
 have d3:decide (((j:Nat):Int)<0)=false:=by simp
 simp -implicitDefEqProofs only [d2,d3,cond_t,cond_f,zV,zd,zm,yA,zh,SheetBlock.ts,SheetBlock.vs,SheetRule.ts,SheetRule.vs,Sheet.vs,zZ,zA,zB,zC,zD,zE,zG,zH,zI,zJ,zK,if_true,if_false,reduceCtorEq,zW,zX,zY,za,zb]
 refine call_pure (impl_SheetValid s hs _) ?_
 rcases hv:sheetR s with _ | _
 ·simp -implicitDefEqProofs only [cond_t,cond_f,zV,zd,zm,yA,zh,SheetBlock.ts,SheetBlock.vs,SheetRule.ts,SheetRule.vs,Sheet.vs,zZ,zA,zB,zC,zD,zE,zG,zH,zI,zJ,zK,if_true,if_false,reduceCtorEq,zW,zX,zY,za,zb]
  exact bad _ (getR_bad (.inl hv))
 rw [getR_good hv hb hr]
 rw [hr,ruleV,SheetRule.vs] at ea
 simp only [List.cons.injEq,and_true] at ea
 obtain ⟨rfl,rfl,rfl,rfl⟩:=ea
 obtain ⟨hxi,hxk⟩:=rule_in hr
 have hbo:=hs.Blocks.2 b (List.mem_of_getElem? hgb)
 simp -implicitDefEqProofs only [c2,hgb,cond_t,cond_f,zV,zd,zm,yA,zh,SheetBlock.ts,SheetBlock.vs,SheetRule.ts,SheetRule.vs,Sheet.vs,zZ,zA,zB,zC,zD,zE,zG,zH,zI,zJ,zK,if_true,if_false,reduceCtorEq,zW,zX,zY,za,zb]
 refine call_pure (impl_of b hbo key _) ?_
 simp -implicitDefEqProofs only [zV,zd,zm,yA,zh,SheetBlock.ts,SheetBlock.vs,SheetRule.ts,SheetRule.vs,Sheet.vs,zZ,zA,zB,zC,zD,zE,zG,zH,zI,zJ,zK,if_true,if_false,reduceCtorEq,zW,zX,zY,za,zb]
 have hlo:=ofR_ok (key:=key) hbo.Lines
 refine call_by (by rw [List.append_nil]; exact impl_cloneLines _ hlo _) ?_
 rintro w σ' ⟨τ,is,rfl,ho,hw⟩
 have hone:=ho.one
 have hlv:=own_lenSl ho
 simp only [zH,zh] at hlv
 have hbx:∀ τ':Store,(σ++τ')[σ.length+1]?=τ'[1]?:=fun τ'=>q_app_get σ τ' 1
 simp -implicitDefEqProofs only [hone,hlv,zV,zd,zm,yA,zh,SheetBlock.ts,SheetBlock.vs,SheetRule.ts,SheetRule.vs,Sheet.vs,zZ,zA,zB,zC,zD,zE,zG,zH,zI,zJ,zK,if_true,if_false,reduceCtorEq,zW,zX,zY,za,zb]
 subst hxk
 obtain ⟨B,hB⟩:∃ B:Store,B=[.box [.t (.lst 3 (s.Blocks.map SheetBlock.ts))],.box [.t (.str x.Key),.t (.lst 1 (x.Args.map tInt)),.t (.bool x.Many),.t (.lst 1 (x.Default.map tStr))]]:=⟨_,rfl⟩
 have hk0:∀ τ':Store,getL b x=ofR x.Key b.Lines→retV σ.length (PairR (tSheetLineS (getL b x)) true σ) (σ++(.box [.t (.lst 3 (s.Blocks.map SheetBlock.ts))]::.box [.t (.str x.Key),.t (.lst 1 (x.Args.map tInt)),.t (.bool x.Many),.t (.lst 1 (x.Default.map tStr))]::τ)) (some [w,.t (.bool true)]):=fun _ h=>by
  refine fin_keep (by simp) ⟨w,_,is,rfl,rfl,?_,hw.mono (by simp) (by simp)⟩
  rw [h]
  have:=ho
  simp only [List.append_assoc,List.cons_append,zr] at this
  exact this
 have hd5:x.Default.length≤5:=by
  have hsmall:=List.all_eq_true.1 (rules_small kind).2 x hxi
  simp only [ruleSmall,yB,decide_eq_true_eq] at hsmall
  exact hsmall.1.2
 refine cond_known (fun g1=>?_) (fun g1=>?_)
 ·rcases hm:x.Many with _ | _
  ·have hg:getL b x=[⟨x.Key,x.Default⟩]:=by rw [getL,if_pos (by rw [g1,hm]; rfl)]
   simp -implicitDefEqProofs only [g1,hm,c2,cond_t,cond_f,zV,zd,zm,yA,zh,SheetBlock.ts,SheetBlock.vs,SheetRule.ts,SheetRule.vs,Sheet.vs,zZ,zA,zB,zC,zD,zE,zG,zH,zI,zJ,zK,if_true,if_false,reduceCtorEq,zW,zX,zY,za,zb]
   have hst:=impl_standard x hd5
   rw [SheetRule.vs,hm] at hst
   refine call_by (by rw [List.append_nil]; exact hst _) ?_
   rintro r σ' ⟨us,τ2,is2,rfl,rfl,ho2,hw2⟩
   simp only [SheetLine.ts,OwnL] at ho2
   obtain ⟨_,_,i1,j1,rfl,rfl,hs1,_,_,i2,j2,rfl,rfl,hs2,rfl,rfl⟩:=ho2
   simp only [Own] at hs1
   obtain ⟨rfl,rfl⟩:=hs1
   have ho2:=hs2.one
   simp -implicitDefEqProofs only [ho2,c2,zV,zd,zm,yA,zh,SheetBlock.ts,SheetBlock.vs,SheetRule.ts,SheetRule.vs,Sheet.vs,zZ,zA,zB,zC,zD,zE,zG,zH,zI,zJ,zK,if_true,if_false,reduceCtorEq,zW,zX,zY,za,zb]
   refine And.intro (by decide) ?_
   obtain ⟨T2,hT2⟩:∃ T2:Store,T2=.box [.t (.lst 3 (s.Blocks.map SheetBlock.ts))]::.box [.t (.str x.Key),.t (.lst 1 (x.Args.map tInt)),.t (.bool false),.t (.lst 1 (x.Default.map tStr))]::(τ++τ2):=⟨_,rfl⟩
   obtain ⟨Z2,hZ2⟩:∃ Z2,Z2=σ++T2:=⟨_,rfl⟩
   have hs3:=hs2
   have hw3:=hw2
   simp only [List.append_assoc,List.cons_append,zr] at hs3 hw3
   rw [← hT2,← hZ2] at hs3 hw3 ⊢
   refine lit_own ?_
   simp -implicitDefEqProofs only [zV,zd,zm,yA,zh,SheetBlock.ts,SheetBlock.vs,SheetRule.ts,SheetRule.vs,Sheet.vs,zZ,zA,zB,zC,zD,zE,zG,zH,zI,zJ,zK,if_true,if_false,reduceCtorEq,zW,zX,zY,za,zb]
   have hl2:σ.length≤Z2.length:=by rw [hZ2]; simp
   refine fin_keep (by simp; omega) ⟨_,T2++[_],Z2.length::i2,rfl,by rw [hZ2,List.append_assoc],?_,?_⟩
   ·rw [hg]
    simp only [Own,zu,zx]
    refine ⟨by omega,.inr ⟨Z2.length,i2,_,rfl,rfl,by rw [List.getElem?_append_right (Nat.le_refl _),Nat.sub_self]; rfl,OwnR.one (lines_own (x:=⟨x.Key,x.Default⟩) ((Kp.app Z2 _).own hs3))⟩⟩
   ·have w3:=hw3.mono (a':=σ.length) (by simp) (Nat.le_refl _)
    simp only [zr,List.append_nil] at w3
    refine ⟨List.nodup_cons.2 ⟨fun h=>by have:=w3.2 _ h; omega,w3.1⟩,fun y hy=>?_⟩
    simp only [zt,zj,zk]
    rcases List.mem_cons.1 hy with rfl | hy
    ·omega
    ·have:=w3.2 y hy; omega
  ·have hg:getL b x=ofR x.Key b.Lines:=by rw [getL,if_neg (by rw [hm]; simp)]
   rw [hm] at hk0
   simp -implicitDefEqProofs only [g1,hm,c2,cond_t,cond_f,zV,zd,zm,yA,zh,SheetBlock.ts,SheetBlock.vs,SheetRule.ts,SheetRule.vs,Sheet.vs,zZ,zA,zB,zC,zD,zE,zG,zH,zI,zJ,zK,if_true,if_false,reduceCtorEq,zW,zX,zY,za,zb]
   exact hk0 [] hg
 ·have hg:getL b x=ofR x.Key b.Lines:=by rw [getL,if_neg (by rw [g1]; simp)]
  simp -implicitDefEqProofs only [g1,c2,cond_t,cond_f,zV,zd,zm,yA,zh,SheetBlock.ts,SheetBlock.vs,SheetRule.ts,SheetRule.vs,Sheet.vs,zZ,zA,zB,zC,zD,zE,zG,zH,zI,zJ,zK,if_true,if_false,reduceCtorEq,zW,zX,zY,za,zb]
  exact hk0 [] hg
section
variable {P:Program} {f:FuncId} {us vs:List V} {σ:Store} {t:T} {b:Bool}
theorem frz_pairOf (h:ACalls P f us σ (PairR t b σ)):ACalls P f us σ fun r σ'=>r=.tup [.t t,.t (.bool b)]∧σ'=σ :=
 frz_pair (h.mono fun r σ' ⟨w,τ,is,h1,h2,h3,h4⟩=>⟨τ,w,h2,h1,h3.seesF fun i hi=>(h4.2 i hi).1⟩)
end
end Go.Proofs.YtnnnemgbgilfaaaDoor.W
