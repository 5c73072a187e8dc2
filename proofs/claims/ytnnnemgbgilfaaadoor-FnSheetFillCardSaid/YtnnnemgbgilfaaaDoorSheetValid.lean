/- Which lines a block may hold. Conditions: none. -/
/- Which blocks are sound. Conditions: none. -/
/- Which sheets are sound. Conditions: none. -/
import Derived.Test.YtnnnemgbgilfaaaDoorSheetLess
import Derived.Test.YtnnnemgbgilfaaaDoorAb4
set_option linter.unusedSimpArgs false
set_option linter.unusedVariables false
set_option linter.defProp false
open Bool renaming and_eq_true → yB
open Go.Ab renaming eget → zC, env0 → zD, isNilP → zI, isNilS → zJ, lenSl → zH, lenStr → zG, nat_nn → zV, opv → zA, opvs → zB, putAt → zK, setD → zE
open List renaming getElem?_map → zm, length_map → zh, map_cons → zu
open Nat renaming reduceAdd → zb, reduceEqDiff → zX, reduceLeDiff → zW, reduceMul → za, reduceSub → zY, zero_le → zd
open Option renaming map_some → yA
section
open Go Go.Ab
set_option maxHeartbeats 2000000
namespace Go.Proofs.YtnnnemgbgilfaaaDoor.W
def cntK (ls:List SheetLine) (key:List UInt8):Nat:=ls.countP fun l=>l.Key == key
def manyR (kind key:List UInt8):Bool:=match ruleOf kind key with
 | some x=>x.Many
 | none=>false
def prevL (kind:List UInt8) (ls:List SheetLine) (k:Nat) (x:SheetLine):Bool:=k == 0 || (match ls[k - 1]? with
 | some y=>lineLess kind y x
 | none=>true)
def cntOk (many:Bool) (n:Nat):Bool:=!((!many && decide (1<n)) || decide (10<n))
def lineP (kind:List UInt8) (ls:List SheetLine) (q:SheetLine × Nat):Bool:=fitsR kind q.1.Key q.1.Words && prevL kind ls q.2 q.1 && cntOk (manyR kind q.1.Key) (cntK (ls.take (q.2+1)) q.1.Key)
def linesR (kind:List UInt8) (ls:List SheetLine):Bool:=ls.zipIdx.all (lineP kind ls)
theorem prevL_some {kind:List UInt8} {ls:List SheetLine} {k:Nat} {x y:SheetLine} (h:ls[k - 1]?=some y) (h0:0<k):prevL kind ls k x=lineLess kind y x:=by
 unfold prevL
 rw [h]
 have:(k == 0)=false:=by simp; omega
 rw [this]; rfl
theorem fits_rule {kind key:List UInt8} {ws:List (List UInt8)} (h:fitsR kind key ws=true):∃ (i:Nat) (r:SheetRule),(rulesR kind)[i]?=some r∧ruleIx kind key=(i:Nat)∧ruleOf kind key=some r∧manyR kind key=r.Many:=by
 rcases rule_two kind key with ⟨_,h2⟩ | ⟨i,r,h1,h2,h3⟩
 ·rw [fitsR,h2] at h; cases h
 ·exact ⟨i,r,h1,h2,h3,by rw [manyR,h3]⟩
theorem cntK_step {ls:List SheetLine} {j:Nat} {y:SheetLine} (h:ls[j]?=some y) (key:List UInt8):cntK (ls.take (j+1)) key=cntK (ls.take j) key+(if (y.Key == key)=true then 1 else 0):=by
 rw [take_of h,cntK,List.countP_append,List.countP_cons,List.countP_nil,Nat.zero_add]
 rfl
theorem cntK_le (ls:List SheetLine) (j:Nat) (key:List UInt8):cntK (ls.take j) key≤j:=Nat.le_trans List.countP_le_length (by simp; omega)
def c_spec_l39LinesOk:C:=(.seq (.ops [⟨some 4,none,.mv (.c (.t (.bool false)))⟩]) (.seq (.seq (.ops [⟨some 5,none,.mv (.c (.t (.int .i64 0)))⟩]) (.block 0 (.loop (.seq (.seq (.ops [⟨some 9,none,.mv (.t 5)⟩,⟨some 10,none,.mv (.t 1)⟩,⟨some 11,none,.len false (.t 10)⟩,⟨some 12,none,.bin .lss (.t 9) (.t 11)⟩]) (.cond (.t 12) .skip (.exit 0))) (.seq (.block 1 (.seq (.seq (.drawn [.mk 0 false ⟨some 15,none,.mv (.t 0)⟩ [],.mk 1 false ⟨some 16,none,.mv (.t 1)⟩ [],.mk 2 false ⟨some 17,none,.mv (.t 5)⟩ [],.mk 3 false ⟨some 18,none,.indexAddr 2 (.t 16) (.t 17)⟩ [],.mk 4 false ⟨some 19,none,.fieldAddr 0 (.t 18)⟩ [],.mk 5 false ⟨some 20,none,.load none (.t 19)⟩ [],.mk 6 false ⟨some 21,none,.mv (.t 1)⟩ [],.mk 7 false ⟨some 22,none,.mv (.t 5)⟩ [],.mk 8 false ⟨some 23,none,.indexAddr 2 (.t 21) (.t 22)⟩ [],.mk 9 false ⟨some 24,none,.fieldAddr 1 (.t 23)⟩ [],.mk 10 false ⟨some 25,none,.load none (.t 24)⟩ [],.mk 11 false ⟨some 26,none,.call (.c (.fn (.func 67) [])) [.t 15,.t 20,.t 25]⟩ [],.mk 12 false ⟨some 27,none,.un .not (.t 26)⟩ [],.mk 13 false ⟨some 28,none,.mv (.t 27)⟩ [],.mk 14 false ⟨some 29,some ⟨28,false⟩,.mv (.t 5)⟩ [],.mk 15 false ⟨some 30,some ⟨28,false⟩,.bin .gtr (.t 29) (.c (.t (.int .i64 0)))⟩ [],.mk 16 false ⟨some 31,some ⟨28,false⟩,.mv (.t 30)⟩ [],.mk 17 false ⟨some 32,some ⟨31,true⟩,.mv (.t 0)⟩ [],.mk 18 false ⟨some 33,some ⟨31,true⟩,.mv (.t 1)⟩ [],.mk 19 false ⟨some 34,some ⟨31,true⟩,.mv (.t 5)⟩ [],.mk 20 false ⟨some 35,some ⟨31,true⟩,.bin .sub (.t 34) (.c (.t (.int .i64 1)))⟩ [],.mk 21 false ⟨some 36,some ⟨31,true⟩,.indexAddr 2 (.t 33) (.t 35)⟩ [],.mk 22 false ⟨some 37,some ⟨31,true⟩,.load (some 2) (.t 36)⟩ [],.mk 23 false ⟨some 38,some ⟨31,true⟩,.mv (.t 1)⟩ [],.mk 24 false ⟨some 39,some ⟨31,true⟩,.mv (.t 5)⟩ [],.mk 25 false ⟨some 40,some ⟨31,true⟩,.indexAddr 2 (.t 38) (.t 39)⟩ [],.mk 26 false ⟨some 41,some ⟨31,true⟩,.load (some 2) (.t 40)⟩ [],.mk 27 false ⟨some 42,some ⟨31,true⟩,.call (.c (.fn (.func 64) [])) [.t 32,.t 37,.t 41]⟩ [],.mk 28 false ⟨some 43,some ⟨31,true⟩,.un .not (.t 42)⟩ [],.mk 29 false ⟨some 44,some ⟨28,false⟩,.pick (.t 31) (.t 43) (.c (.t (.bool false)))⟩ [],.mk 30 false ⟨some 45,none,.pick (.t 28) (.c (.t (.bool true))) (.t 44)⟩ []]) (.cond (.t 45) (.seq (.ops [⟨some 4,none,.mv (.c (.t (.bool false)))⟩]) .ret) .skip)) (.seq (.drawn [.mk 0 false ⟨some 46,none,.mv (.t 0)⟩ [],.mk 2 false ⟨some 48,none,.mv (.t 0)⟩ [],.mk 3 false ⟨some 49,none,.mv (.t 1)⟩ [],.mk 4 false ⟨some 50,none,.mv (.t 5)⟩ [],.mk 5 false ⟨some 51,none,.indexAddr 2 (.t 49) (.t 50)⟩ [],.mk 6 false ⟨some 52,none,.fieldAddr 0 (.t 51)⟩ [],.mk 7 false ⟨some 53,none,.load none (.t 52)⟩ [],.mk 1 true ⟨some 47,none,.call (.c (.fn (.func 33) [])) [.t 46]⟩ [⟨some 51,none,.indexAddr 2 (.t 49) (.t 50)⟩,⟨some 53,none,.load none (.t 52)⟩],.mk 8 false ⟨some 54,none,.call (.c (.fn (.func 36) [])) [.t 48,.t 53]⟩ [],.mk 9 false ⟨some 55,none,.indexAddr 4 (.t 47) (.t 54)⟩ [],.mk 10 false ⟨some 56,none,.fieldAddr 2 (.t 55)⟩ [],.mk 11 false ⟨some 57,none,.load none (.t 56)⟩ [],.mk 12 false ⟨some 6,none,.mv (.t 57)⟩ []]) (.seq (.ops [⟨some 7,none,.mv (.c (.t (.int .i64 0)))⟩]) (.seq (.seq (.ops [⟨some 8,none,.mv (.c (.t (.int .i64 0)))⟩]) (.block 2 (.loop (.seq (.seq (.ops [⟨some 58,none,.mv (.t 8)⟩,⟨some 59,none,.mv (.t 5)⟩,⟨some 60,none,.bin .leq (.t 58) (.t 59)⟩]) (.cond (.t 60) .skip (.exit 2))) (.seq (.block 3 (.seq (.drawn [.mk 0 false ⟨some 63,none,.mv (.t 1)⟩ [],.mk 1 false ⟨some 64,none,.mv (.t 8)⟩ [],.mk 2 false ⟨some 65,none,.indexAddr 2 (.t 63) (.t 64)⟩ [],.mk 3 false ⟨some 66,none,.fieldAddr 0 (.t 65)⟩ [],.mk 4 false ⟨some 67,none,.load none (.t 66)⟩ [],.mk 5 false ⟨some 68,none,.mv (.t 1)⟩ [],.mk 6 false ⟨some 69,none,.mv (.t 5)⟩ [],.mk 7 false ⟨some 70,none,.indexAddr 2 (.t 68) (.t 69)⟩ [],.mk 8 false ⟨some 71,none,.fieldAddr 0 (.t 70)⟩ [],.mk 9 false ⟨some 72,none,.load none (.t 71)⟩ [],.mk 10 false ⟨some 73,none,.bin .eql (.t 67) (.t 72)⟩ []]) (.cond (.t 73) (.ops [⟨some 74,none,.mv (.t 7)⟩,⟨some 75,none,.bin .add (.t 74) (.c (.t (.int .i64 1)))⟩,⟨some 7,none,.mv (.t 75)⟩]) .skip))) (.ops [⟨some 61,none,.mv (.t 8)⟩,⟨some 62,none,.bin .add (.t 61) (.c (.t (.int .i64 1)))⟩,⟨some 8,none,.mv (.t 62)⟩])))))) (.seq (.ops [⟨some 76,none,.mv (.t 6)⟩,⟨some 77,none,.un .not (.t 76)⟩,⟨some 78,none,.mv (.t 77)⟩,⟨some 79,some ⟨78,true⟩,.mv (.t 7)⟩,⟨some 80,some ⟨78,true⟩,.bin .gtr (.t 79) (.c (.t (.int .i64 1)))⟩,⟨some 81,none,.pick (.t 78) (.t 80) (.c (.t (.bool false)))⟩,⟨some 82,none,.mv (.t 81)⟩,⟨some 83,some ⟨82,false⟩,.mv (.t 7)⟩,⟨some 84,some ⟨82,false⟩,.bin .gtr (.t 83) (.c (.t (.int .i64 10)))⟩,⟨some 85,none,.pick (.t 82) (.c (.t (.bool true))) (.t 84)⟩]) (.cond (.t 85) (.seq (.ops [⟨some 4,none,.mv (.c (.t (.bool false)))⟩]) .ret) .skip))))))) (.ops [⟨some 13,none,.mv (.t 5)⟩,⟨some 14,none,.bin .add (.t 13) (.c (.t (.int .i64 1)))⟩,⟨some 5,none,.mv (.t 14)⟩])))))) (.seq (.ops [⟨some 4,none,.mv (.c (.t (.bool true)))⟩]) .ret)))
theorem k_spec_l39LinesOk:comp Tryd.prog 86 (Tryd.f39.body.getD .skip)=some c_spec_l39LinesOk:=by kernel_rfl
theorem spec_l39LinesOk (kind:List UInt8) (ls:List SheetLine) (hls:SheetLine.OkS ls)  (σ:Store):ACalls Tryd.prog 39 [.t (.str (kind)),.t (tSheetLineS ls)] σ fun rr σ'=>rr=.t (.bool (linesR kind ls))∧σ'=σ:=by
 refine acalls_of Tryd.func39 (by decide +kernel) (code:=Tryd.f39.body.getD .skip) (n:=86) (c:=c_spec_l39LinesOk) (rs:=[(.tmp 4)]) rfl rfl k_spec_l39LinesOk (by kernel_rfl) (by simp) (fun hσ=>?_)
 have hh:True:=trivial
 have fin:∀ {u:V} {τ:Store},u=.t (.bool (linesR kind ls))→u.lt σ.length=true→retV σ.length (fun rr σ'=>rr=.t (.bool (linesR kind ls))∧σ'=σ) (σ++τ) (some [u]):=fun h h2=>ret_same rfl hσ h2 ⟨h,rfl⟩
 have fin0:∀ {u:V},u=.t (.bool (linesR kind ls))→retV σ.length (fun rr σ'=>rr=.t (.bool (linesR kind ls))∧σ'=σ) σ (some [u]):=fun h=>ret_same0 rfl ⟨h,rfl⟩
 have y1:=hls.1
 simp -implicitDefEqProofs only [c_spec_l39LinesOk,zh,zZ,zA,zB,zC,zD,zE,zG,zH,zI,zJ,zK,if_true,if_false,reduceCtorEq,zW,zX,zY,za,zb]
 refine loop_p [5,0,1] [0,1] (fun k:Nat=>[(5,.t (.int .i64 (k:Nat)))]) (fun k=>k≤ls.length∧(ls.zipIdx.take k).all (lineP kind ls)=true) (fun k=>ls.length - k) 0 (by simp) ⟨Nat.zero_le _,rfl⟩ rfl ?_
 rintro k ⟨hk,hall⟩
 simp -implicitDefEqProofs only [keep,zh,zZ,zA,zB,zC,zD,zE,zG,zH,zI,zJ,zK,if_true,if_false,reduceCtorEq,zW,zX,zY,za,zb]
 refine cond_split (fun h1=>?_) (fun h1=>?_)
 ·obtain ⟨x,hx,hlt⟩:=at_of h1
  have more:=i64_succ (show k<4611686018427387904 by omega)
  have hxo:=hls.2 x (List.mem_of_getElem? hx)
  clear h1
  simp -implicitDefEqProofs only [hx,zV,zd,zm,yA,zh,SheetLine.ts,SheetLine.vs,more,cond_t,cond_f,zZ,zA,zB,zC,zD,zE,zG,zH,zI,zJ,zK,if_true,if_false,reduceCtorEq,zW,zX,zY,za,zb]
  refine call_pure (spec_SheetFits0 kind x.Key x.Words hxo.Words _) ?_
  rcases hf:fitsR kind x.Key x.Words with _ | _
  ·have hno:lineP kind ls (x,k)=false:=by simp only [lineP,hf]; rfl
   simp -implicitDefEqProofs only [hf,hx,zV,zd,zm,yA,zh,SheetLine.ts,SheetLine.vs,more,cond_t,cond_f,zZ,zA,zB,zC,zD,zE,zG,zH,zI,zJ,zK,if_true,if_false,reduceCtorEq,zW,zX,zY,za,zb]
   first | exact fin0 (tb (by rw [linesR,all_not (zip_at hx) hno])) | exact fin (tb (by rw [linesR,all_not (zip_at hx) hno])) rfl
  obtain ⟨i,r,hri,hix,hro,hmany⟩:=fits_rule hf
  by_cases hk0:k=0
  ·have d0:decide (((k:Nat):Int) > 0)=false:=by simp; omega
   have hpv:prevL kind ls k x=true:=by rw [hk0]; rfl
   simp -implicitDefEqProofs only [hf,d0,hx,zV,zd,zm,yA,zh,SheetLine.ts,SheetLine.vs,more,cond_t,cond_f,zZ,zA,zB,zC,zD,zE,zG,zH,zI,zJ,zK,if_true,if_false,reduceCtorEq,zW,zX,zY,za,zb]
   have hh:True:=trivial
   refine call_pure (spec_SheetRules kind _) ?_
   simp -implicitDefEqProofs only [hx,zV,zd,zm,yA,zh,SheetLine.ts,SheetLine.vs,more,cond_t,cond_f,zZ,zA,zB,zC,zD,zE,zG,zH,zI,zJ,zK,if_true,if_false,reduceCtorEq,zW,zX,zY,za,zb]
   refine call_pure (spec_l38Rule kind x.Key _) ?_
   rw [hix]
   simp -implicitDefEqProofs only [hri,hx,zV,zd,zm,yA,zh,SheetLine.ts,SheetLine.vs,more,cond_t,cond_f,SheetRule.ts,zZ,zA,zB,zC,zD,zE,zG,zH,zI,zJ,zK,if_true,if_false,reduceCtorEq,zW,zX,zY,za,zb]
   refine loop_p [7,8,0,1,5,6] [0,1,5,6] (fun j:Nat=>[(7,.t (.int .i64 ((cntK (ls.take j) x.Key:Nat):Int))),(8,.t (.int .i64 (j:Nat)))]) (fun j=>j≤k+1) (fun j=>k+1 - j) 0 (by simp) (Nat.zero_le _) rfl ?_
   rintro j hj
   simp -implicitDefEqProofs only [keep,zh,zZ,zA,zB,zC,zD,zE,zG,zH,zI,zJ,zK,if_true,if_false,reduceCtorEq,zW,zX,zY,za,zb]
   refine cond_split (fun g1=>?_) (fun g1=>?_)
   ·have hjk:j≤k:=by have:(j:Int)≤k:=(by simpa using g1); omega
    obtain ⟨y,hy⟩:∃ y,ls[j]?=some y:=⟨ls[j]'(by omega),List.getElem?_eq_getElem (by omega)⟩
    have morj:=i64_succ (show j<4611686018427387904 by omega)
    have hst:=cntK_step hy x.Key
    have hcl:=cntK_le ls j x.Key
    have morc:=i64_succ (show cntK (ls.take j) x.Key<4611686018427387904 by omega)
    simp -implicitDefEqProofs only [hy,hx,zV,zd,zm,yA,zh,SheetLine.ts,SheetLine.vs,more,cond_t,cond_f,morj,zZ,zA,zB,zC,zD,zE,zG,zH,zI,zJ,zK,if_true,if_false,reduceCtorEq,zW,zX,zY,za,zb]
    refine cond_split (fun g2=>?_) (fun g2=>?_)
    ·rw [if_pos g2] at hst
     simp -implicitDefEqProofs only [morj,morc,zZ,zA,zB,zC,zD,zE,zG,zH,zI,zJ,zK,if_true,if_false,reduceCtorEq,zW,zX,zY,za,zb]
     rw [← hst]
     first | exact lk_p0 (j+1) (by simp) (by simp) (by omega) (by omega) rfl | exact lk_p (j+1) (by simp) (by simp) hσ rfl (by omega) (by omega) rfl rfl | exact lk_pm (j+1) (Nat.le_refl _) (by simp) hσ rfl rfl (by omega) (by omega) (by simp [ltE,keep,eget,V.lt]) rfl
    ·rw [if_neg (by rw [g2]; simp)] at hst
     replace hst:cntK (ls.take (j+1)) x.Key=cntK (ls.take j) x.Key:=hst
     simp -implicitDefEqProofs only [morj,zZ,zA,zB,zC,zD,zE,zG,zH,zI,zJ,zK,if_true,if_false,reduceCtorEq,zW,zX,zY,za,zb]
     rw [← hst]
     first | exact lk_p0 (j+1) (by simp) (by simp) (by omega) (by omega) rfl | exact lk_p (j+1) (by simp) (by simp) hσ rfl (by omega) (by omega) rfl rfl | exact lk_pm (j+1) (Nat.le_refl _) (by simp) hσ rfl rfl (by omega) (by omega) (by simp [ltE,keep,eget,V.lt]) rfl
   have hjk:j=k+1:=by have:¬ (j:Int)≤k:=(by simpa using g1); omega
   subst hjk
   clear hj g1
   generalize hcn:cntK (ls.take (k+1)) x.Key=n
   have hn10:n≤k+1:=by rw [← hcn]; exact cntK_le ls (k+1) x.Key
   have hlast:lineP kind ls (x,k)=cntOk r.Many n:=by
    simp only [lineP,hf,hpv,hmany,hcn,Bool.true_and]
   simp -implicitDefEqProofs only [zZ,zA,zB,zC,zD,zE,zG,zH,zI,zJ,zK,if_true,if_false,reduceCtorEq,zW,zX,zY,za,zb]
   repeat' (first
     | ((with_reducible refine cond_known (fun h=>?_) (fun h=>?_)) <;> (replace hh:=And.intro h hh; clear h; simp -implicitDefEqProofs only [hh,cond_t,cond_f,hx,zV,zd,zm,yA,zh,SheetLine.ts,SheetLine.vs,more,cond_t,cond_f,zZ,zA,zB,zC,zD,zE,zG,zH,zI,zJ,zK,if_true,if_false,reduceCtorEq,zW,zX,zY,za,zb]))
     | (first | (refine fin0 (tb ?_); try simp only [Known] at hh; rw [linesR,all_not (zip_at hx) (p:=lineP kind ls) (by rw [hlast,cntOk]; grind)]) | (refine fin (tb ?_) rfl; try simp only [Known] at hh; rw [linesR,all_not (zip_at hx) (p:=lineP kind ls) (by rw [hlast,cntOk]; grind)]) | (refine lk_p0 (k+1) (by simp) (by simp) (by omega) ⟨by omega,all_step (zip_at hx) hall ?_⟩ rfl; (try simp only [Known] at hh); rw [hlast,cntOk]; grind) | (refine lk_p (k+1) (by simp) (by simp) hσ rfl (by omega) ⟨by omega,all_step (zip_at hx) hall ?_⟩ rfl rfl; (try simp only [Known] at hh); rw [hlast,cntOk]; grind) | (refine lk_pm (k+1) (Nat.le_refl _) (by simp) hσ rfl rfl (by omega) ⟨by omega,all_step (zip_at hx) hall ?_⟩ (by simp [ltE,keep,eget,V.lt]) rfl; (try simp only [Known] at hh); rw [hlast,cntOk]; grind)))
  ·have d0:decide (((k:Nat):Int) > 0)=true:=by simp; omega
   obtain ⟨y,hy,hw⟩:=prev_of hx d0 y1
   have hyo:=hls.2 y (List.mem_of_getElem? hy)
   have hpe:=prevL_some (kind:=kind) (x:=x) hy (by omega)
   simp -implicitDefEqProofs only [hf,d0,hy,hw,hx,zV,zd,zm,yA,zh,SheetLine.ts,SheetLine.vs,more,cond_t,cond_f,zZ,zA,zB,zC,zD,zE,zG,zH,zI,zJ,zK,if_true,if_false,reduceCtorEq,zW,zX,zY,za,zb]
   refine call_pure (spec_l39LineLess kind y x hyo hxo _) ?_
   rcases hpv:lineLess kind y x with _ | _
   ·have hno:lineP kind ls (x,k)=false:=by simp only [lineP,hf,hpe,hpv]; rfl
    simp -implicitDefEqProofs only [hpv,hx,zV,zd,zm,yA,zh,SheetLine.ts,SheetLine.vs,more,cond_t,cond_f,zZ,zA,zB,zC,zD,zE,zG,zH,zI,zJ,zK,if_true,if_false,reduceCtorEq,zW,zX,zY,za,zb]
    first | exact fin0 (tb (by rw [linesR,all_not (zip_at hx) hno])) | exact fin (tb (by rw [linesR,all_not (zip_at hx) hno])) rfl
   rw [← hpe] at hpv
   rw [hpe] at hpv
   simp -implicitDefEqProofs only [hpv,hx,zV,zd,zm,yA,zh,SheetLine.ts,SheetLine.vs,more,cond_t,cond_f,zZ,zA,zB,zC,zD,zE,zG,zH,zI,zJ,zK,if_true,if_false,reduceCtorEq,zW,zX,zY,za,zb]
   rw [← hpe] at hpv
   have hh:True:=trivial
   refine call_pure (spec_SheetRules kind _) ?_
   simp -implicitDefEqProofs only [hx,zV,zd,zm,yA,zh,SheetLine.ts,SheetLine.vs,more,cond_t,cond_f,zZ,zA,zB,zC,zD,zE,zG,zH,zI,zJ,zK,if_true,if_false,reduceCtorEq,zW,zX,zY,za,zb]
   refine call_pure (spec_l38Rule kind x.Key _) ?_
   rw [hix]
   simp -implicitDefEqProofs only [hri,hx,zV,zd,zm,yA,zh,SheetLine.ts,SheetLine.vs,more,cond_t,cond_f,SheetRule.ts,zZ,zA,zB,zC,zD,zE,zG,zH,zI,zJ,zK,if_true,if_false,reduceCtorEq,zW,zX,zY,za,zb]
   refine loop_p [7,8,0,1,5,6] [0,1,5,6] (fun j:Nat=>[(7,.t (.int .i64 ((cntK (ls.take j) x.Key:Nat):Int))),(8,.t (.int .i64 (j:Nat)))]) (fun j=>j≤k+1) (fun j=>k+1 - j) 0 (by simp) (Nat.zero_le _) rfl ?_
   rintro j hj
   simp -implicitDefEqProofs only [keep,zh,zZ,zA,zB,zC,zD,zE,zG,zH,zI,zJ,zK,if_true,if_false,reduceCtorEq,zW,zX,zY,za,zb]
   refine cond_split (fun g1=>?_) (fun g1=>?_)
   ·have hjk:j≤k:=by have:(j:Int)≤k:=(by simpa using g1); omega
    obtain ⟨y,hy⟩:∃ y,ls[j]?=some y:=⟨ls[j]'(by omega),List.getElem?_eq_getElem (by omega)⟩
    have morj:=i64_succ (show j<4611686018427387904 by omega)
    have hst:=cntK_step hy x.Key
    have hcl:=cntK_le ls j x.Key
    have morc:=i64_succ (show cntK (ls.take j) x.Key<4611686018427387904 by omega)
    simp -implicitDefEqProofs only [hy,hx,zV,zd,zm,yA,zh,SheetLine.ts,SheetLine.vs,more,cond_t,cond_f,morj,zZ,zA,zB,zC,zD,zE,zG,zH,zI,zJ,zK,if_true,if_false,reduceCtorEq,zW,zX,zY,za,zb]
    refine cond_split (fun g2=>?_) (fun g2=>?_)
    ·rw [if_pos g2] at hst
     simp -implicitDefEqProofs only [morj,morc,zZ,zA,zB,zC,zD,zE,zG,zH,zI,zJ,zK,if_true,if_false,reduceCtorEq,zW,zX,zY,za,zb]
     rw [← hst]
     first | exact lk_p0 (j+1) (by simp) (by simp) (by omega) (by omega) rfl | exact lk_p (j+1) (by simp) (by simp) hσ rfl (by omega) (by omega) rfl rfl | exact lk_pm (j+1) (Nat.le_refl _) (by simp) hσ rfl rfl (by omega) (by omega) (by simp [ltE,keep,eget,V.lt]) rfl
    ·rw [if_neg (by rw [g2]; simp)] at hst
     replace hst:cntK (ls.take (j+1)) x.Key=cntK (ls.take j) x.Key:=hst
     simp -implicitDefEqProofs only [morj,zZ,zA,zB,zC,zD,zE,zG,zH,zI,zJ,zK,if_true,if_false,reduceCtorEq,zW,zX,zY,za,zb]
     rw [← hst]
     first | exact lk_p0 (j+1) (by simp) (by simp) (by omega) (by omega) rfl | exact lk_p (j+1) (by simp) (by simp) hσ rfl (by omega) (by omega) rfl rfl | exact lk_pm (j+1) (Nat.le_refl _) (by simp) hσ rfl rfl (by omega) (by omega) (by simp [ltE,keep,eget,V.lt]) rfl
   have hjk:j=k+1:=by have:¬ (j:Int)≤k:=(by simpa using g1); omega
   subst hjk
   clear hj g1
   generalize hcn:cntK (ls.take (k+1)) x.Key=n
   have hn10:n≤k+1:=by rw [← hcn]; exact cntK_le ls (k+1) x.Key
   have hlast:lineP kind ls (x,k)=cntOk r.Many n:=by
    simp only [lineP,hf,hpv,hmany,hcn,Bool.true_and]
   simp -implicitDefEqProofs only [zZ,zA,zB,zC,zD,zE,zG,zH,zI,zJ,zK,if_true,if_false,reduceCtorEq,zW,zX,zY,za,zb]
   repeat' (first
     | ((with_reducible refine cond_known (fun h=>?_) (fun h=>?_)) <;> (replace hh:=And.intro h hh; clear h; simp -implicitDefEqProofs only [hh,cond_t,cond_f,hx,zV,zd,zm,yA,zh,SheetLine.ts,SheetLine.vs,more,cond_t,cond_f,zZ,zA,zB,zC,zD,zE,zG,zH,zI,zJ,zK,if_true,if_false,reduceCtorEq,zW,zX,zY,za,zb]))
     | (first | (refine fin0 (tb ?_); try simp only [Known] at hh; rw [linesR,all_not (zip_at hx) (p:=lineP kind ls) (by rw [hlast,cntOk]; grind)]) | (refine fin (tb ?_) rfl; try simp only [Known] at hh; rw [linesR,all_not (zip_at hx) (p:=lineP kind ls) (by rw [hlast,cntOk]; grind)]) | (refine lk_p0 (k+1) (by simp) (by simp) (by omega) ⟨by omega,all_step (zip_at hx) hall ?_⟩ rfl; (try simp only [Known] at hh); rw [hlast,cntOk]; grind) | (refine lk_p (k+1) (by simp) (by simp) hσ rfl (by omega) ⟨by omega,all_step (zip_at hx) hall ?_⟩ rfl rfl; (try simp only [Known] at hh); rw [hlast,cntOk]; grind) | (refine lk_pm (k+1) (Nat.le_refl _) (by simp) hσ rfl rfl (by omega) ⟨by omega,all_step (zip_at hx) hall ?_⟩ (by simp [ltE,keep,eget,V.lt]) rfl; (try simp only [Known] at hh); rw [hlast,cntOk]; grind)))
 ·have hkk:=end_of h1 hk
  have hall2:linesR kind ls=true:=by
   rw [hkk] at hall
   rw [linesR,← hall,List.take_of_length_le (by simp)]
  simp -implicitDefEqProofs only [zZ,zA,zB,zC,zD,zE,zG,zH,zI,zJ,zK,if_true,if_false,reduceCtorEq,zW,zX,zY,za,zb]
  first | exact fin0 (tb hall2.symm) | exact fin (tb hall2.symm) rfl
end Go.Proofs.YtnnnemgbgilfaaaDoor.W
end
section
open Go Go.Ab
set_option maxHeartbeats 2000000
namespace Go.Proofs.YtnnnemgbgilfaaaDoor.W
def blockR (b:SheetBlock):Bool:=kindOk b.Kind && nameS b.Name && linesR b.Kind b.Lines
theorem rules_cons {kind:List UInt8} (hk:kindOk kind=true):∃ a l,rulesR kind=a::l:=by
 rcases rulesR_some hk with ⟨h,_⟩ | ⟨h,_⟩ | ⟨h,_⟩ <;> rw [h] <;> exact ⟨_,_,rfl⟩
def cntV (n:Nat):V:=.t (.int .i64 (n:Nat))
structure MB where
 k:Nat
 c:Nat
 es:List ME
def kStr (s:List UInt8):V:=.t (.str s)
def MB.I (kind:List UInt8) (ls:List SheetLine) (g:MB):Prop:=g.k≤ls.length∧(ls.zipIdx.take g.k).all (lineP kind ls)=true∧(∃ f,MapIs kStr g.c g.es f∧∀ p,(f p).getD (.t (.int .i64 0))=cntV (cntK (ls.take g.k) p))∧MLt g.es
theorem lt_stbm {σ:Store} {cs:List V} {es:List ME} (h:MLt es) (c:Nat) (hσ:ltσ σ.length σ=true) (hc:V.lts (σ.length+2) cs=true):ltσ (σ.length+2) (σ++[.box cs,.map c es])=true:=by
 simp only [ltσ,List.all_append,yB,List.all_cons,List.all_nil,Bool.and_true]
 exact ⟨ltσ_mono (by omega) hσ,hc,h.lt _ _⟩
def c_impl_blockOk:C:=(.seq (.ops [⟨some 1,none,.box (.t 0)⟩,⟨some 2,none,.mv (.c (.t (.bool false)))⟩]) (.seq (.seq (.ops [⟨some 8,none,.fieldAddr 0 (.t 1)⟩,⟨some 9,none,.load none (.t 8)⟩,⟨some 10,none,.call (.c (.fn (.func 13) [])) [.t 9]⟩,⟨some 11,none,.eqS false (.t 10) (.c .nils)⟩,⟨some 12,none,.mv (.t 11)⟩,⟨some 13,some ⟨12,false⟩,.fieldAddr 1 (.t 1)⟩,⟨some 14,some ⟨12,false⟩,.load none (.t 13)⟩,⟨some 15,some ⟨12,false⟩,.call (.c (.fn (.func 68) [])) [.t 14]⟩,⟨some 16,some ⟨12,false⟩,.un .not (.t 15)⟩,⟨some 17,none,.pick (.t 12) (.c (.t (.bool true))) (.t 16)⟩]) (.cond (.t 17) (.seq (.ops [⟨some 2,none,.mv (.c (.t (.bool false)))⟩]) .ret) .skip)) (.seq (.ops [⟨some 18,none,.mkMap⟩,⟨some 3,none,.mv (.t 18)⟩]) (.seq (.seq (.ops [⟨some 19,none,.fieldAddr 2 (.t 1)⟩,⟨some 20,none,.load none (.t 19)⟩,⟨some 21,none,.len false (.t 20)⟩,⟨some 22,none,.mv (.c (.t (.int .i64 0)))⟩]) (.block 0 (.loop (.seq (.ops [⟨some 23,none,.bin .lss (.t 22) (.t 21)⟩]) (.seq (.cond (.t 23) .skip (.exit 0)) (.seq (.block 1 (.seq (.ops [⟨some 24,none,.mv (.t 22)⟩,⟨some 25,none,.indexAddr 2 (.t 20) (.t 22)⟩,⟨some 26,none,.load (some 2) (.t 25)⟩,⟨some 5,none,.new [.t (.str []),.nils]⟩,⟨some 4,none,.mv (.t 24)⟩,⟨none,none,.store 2 (.t 5) (.t 26)⟩]) (.seq (.seq (.drawn [.mk 0 false ⟨some 27,none,.fieldAddr 0 (.t 1)⟩ [],.mk 1 false ⟨some 28,none,.load none (.t 27)⟩ [],.mk 2 false ⟨some 29,none,.fieldAddr 0 (.t 5)⟩ [],.mk 3 false ⟨some 30,none,.load none (.t 29)⟩ [],.mk 4 false ⟨some 31,none,.fieldAddr 1 (.t 5)⟩ [],.mk 5 false ⟨some 32,none,.load none (.t 31)⟩ [],.mk 6 false ⟨some 33,none,.call (.c (.fn (.func 69) [])) [.t 28,.t 30,.t 32]⟩ [],.mk 7 false ⟨some 34,none,.un .not (.t 33)⟩ [],.mk 8 false ⟨some 35,none,.mv (.t 34)⟩ [],.mk 9 false ⟨some 36,some ⟨35,false⟩,.mv (.t 4)⟩ [],.mk 10 false ⟨some 37,some ⟨35,false⟩,.bin .gtr (.t 36) (.c (.t (.int .i64 0)))⟩ [],.mk 11 false ⟨some 38,some ⟨35,false⟩,.mv (.t 37)⟩ [],.mk 12 false ⟨some 39,some ⟨38,true⟩,.fieldAddr 0 (.t 1)⟩ [],.mk 13 false ⟨some 40,some ⟨38,true⟩,.load none (.t 39)⟩ [],.mk 14 false ⟨some 41,some ⟨38,true⟩,.fieldAddr 2 (.t 1)⟩ [],.mk 15 false ⟨some 42,some ⟨38,true⟩,.load none (.t 41)⟩ [],.mk 16 false ⟨some 43,some ⟨38,true⟩,.mv (.t 4)⟩ [],.mk 17 false ⟨some 44,some ⟨38,true⟩,.bin .sub (.t 43) (.c (.t (.int .i64 1)))⟩ [],.mk 18 false ⟨some 45,some ⟨38,true⟩,.indexAddr 2 (.t 42) (.t 44)⟩ [],.mk 19 false ⟨some 46,some ⟨38,true⟩,.load (some 2) (.t 45)⟩ [],.mk 20 false ⟨some 47,some ⟨38,true⟩,.load (some 2) (.t 5)⟩ [],.mk 21 false ⟨some 48,some ⟨38,true⟩,.call (.c (.fn (.func 70) [])) [.t 40,.t 46,.t 47]⟩ [],.mk 22 false ⟨some 49,some ⟨38,true⟩,.bin .geq (.t 48) (.c (.t (.int .i64 0)))⟩ [],.mk 23 false ⟨some 50,some ⟨35,false⟩,.pick (.t 38) (.t 49) (.c (.t (.bool false)))⟩ [],.mk 24 false ⟨some 51,none,.pick (.t 35) (.c (.t (.bool true))) (.t 50)⟩ []]) (.cond (.t 51) (.seq (.ops [⟨some 2,none,.mv (.c (.t (.bool false)))⟩]) .ret) .skip)) (.seq (.ops [⟨some 52,none,.mv (.t 3)⟩,⟨some 53,none,.fieldAddr 0 (.t 5)⟩,⟨some 54,none,.load none (.t 53)⟩,⟨some 55,none,.look (.one .str) false (.t (.int .i64 0)) (.t 52) (.t 54)⟩,⟨some 56,none,.bin .add (.t 55) (.c (.t (.int .i64 1)))⟩,⟨none,none,.mapUp (.one .str) (.t 52) (.t 54) (.t 56)⟩]) (.seq (.ops [⟨some 58,none,.fieldAddr 0 (.t 1)⟩,⟨some 59,none,.load none (.t 58)⟩,⟨some 60,none,.fieldAddr 0 (.t 5)⟩,⟨some 61,none,.load none (.t 60)⟩,⟨some 62,none,.call (.c (.fn (.func 30) [])) [.t 59,.t 61]⟩,⟨some 57,none,.mv (.t 62)⟩,⟨some 63,none,.extract (.t 57) 0⟩,⟨some 64,none,.extract (.t 57) 1⟩,⟨some 6,none,.new [.t (.str []),.nils,.t (.bool false),.nils]⟩,⟨none,none,.store 4 (.t 6) (.t 63)⟩,⟨some 7,none,.mv (.t 64)⟩]) (.seq (.ops [⟨some 65,none,.fieldAddr 2 (.t 6)⟩,⟨some 66,none,.load none (.t 65)⟩,⟨some 67,none,.un .not (.t 66)⟩,⟨some 68,none,.mv (.t 67)⟩,⟨some 69,some ⟨68,true⟩,.mv (.t 3)⟩,⟨some 70,some ⟨68,true⟩,.fieldAddr 0 (.t 5)⟩,⟨some 71,some ⟨68,true⟩,.load none (.t 70)⟩,⟨some 72,some ⟨68,true⟩,.look (.one .str) false (.t (.int .i64 0)) (.t 69) (.t 71)⟩,⟨some 73,some ⟨68,true⟩,.bin .gtr (.t 72) (.c (.t (.int .i64 1)))⟩,⟨some 74,none,.pick (.t 68) (.t 73) (.c (.t (.bool false)))⟩,⟨some 75,none,.mv (.t 74)⟩,⟨some 76,some ⟨75,false⟩,.mv (.t 3)⟩,⟨some 77,some ⟨75,false⟩,.fieldAddr 0 (.t 5)⟩,⟨some 78,some ⟨75,false⟩,.load none (.t 77)⟩,⟨some 79,some ⟨75,false⟩,.look (.one .str) false (.t (.int .i64 0)) (.t 76) (.t 78)⟩,⟨some 80,some ⟨75,false⟩,.bin .gtr (.t 79) (.c (.t (.int .i64 10)))⟩,⟨some 81,none,.pick (.t 75) (.c (.t (.bool true))) (.t 80)⟩]) (.cond (.t 81) (.seq (.ops [⟨some 2,none,.mv (.c (.t (.bool false)))⟩]) .ret) .skip))))))) (.ops [⟨some 82,none,.bin .add (.t 22) (.c (.t (.int .i64 1)))⟩,⟨some 22,none,.mv (.t 82)⟩]))))))) (.seq (.ops [⟨some 2,none,.mv (.c (.t (.bool true)))⟩]) .ret)))))
theorem k_impl_blockOk:comp Tryd.prog 83 (Tryd.f41.body.getD .skip)=some c_impl_blockOk:=by kernel_rfl
theorem impl_blockOk (b:SheetBlock) (hb:b.Ok)  (σ:Store):ACalls Tryd.prog 41 [.agg (b.vs)] σ fun rr σ'=>rr=.t (.bool (blockR b))∧σ'=σ:=by
 refine acalls_of Tryd.func41 (by decide +kernel) (code:=Tryd.f41.body.getD .skip) (n:=83) (c:=c_impl_blockOk) (rs:=[(.tmp 2)]) rfl rfl k_impl_blockOk (by kernel_rfl) (by simp) (fun hσ=>?_)
 have hh:True:=trivial
 have fin:∀ {u:V} {τ:Store},u=.t (.bool (blockR b))→u.lt σ.length=true→retV σ.length (fun rr σ'=>rr=.t (.bool (blockR b))∧σ'=σ) (σ++τ) (some [u]):=fun h h2=>ret_same rfl hσ h2 ⟨h,rfl⟩
 have fin0:∀ {u:V},u=.t (.bool (blockR b))→retV σ.length (fun rr σ'=>rr=.t (.bool (blockR b))∧σ'=σ) σ (some [u]):=fun h=>ret_same0 rfl ⟨h,rfl⟩
 have y1:=hb.Lines.1
 have hnm:b.Name.length≤1048576:=hb.Name
 simp -implicitDefEqProofs only [c_impl_blockOk,SheetBlock.vs,zZ,zA,zB,zC,zD,zE,zG,zH,zI,zJ,zK,if_true,if_false,reduceCtorEq,zW,zX,zY,za,zb]
 refine call_pure (impl_SheetRulesF b.Kind _) ?_
 rcases hk:kindOk b.Kind with _ | _
 ·have hres:blockR b=false:=by rw [blockR,hk]; rfl
  simp -implicitDefEqProofs only [cond_t,cond_f,zZ,zA,zB,zC,zD,zE,zG,zH,zI,zJ,zK,if_true,if_false,reduceCtorEq,zW,zX,zY,za,zb]
  first | exact fin (tb hres.symm) rfl | exact fin0 (tb hres.symm)
 obtain ⟨r0,rl,hrc⟩:=rules_cons hk
 have hrv:tSheetRuleS (rulesR b.Kind)=.lst 4 (SheetRule.ts r0::rl.map SheetRule.ts):=by rw [hrc]; rfl
 rw [hrv,if_pos rfl]
 simp -implicitDefEqProofs only [zu,cond_t,cond_f,zZ,zA,zB,zC,zD,zE,zG,zH,zI,zJ,zK,if_true,if_false,reduceCtorEq,zW,zX,zY,za,zb]
 refine call_pure (impl_isName_sheet b.Name hnm _) ?_
 rcases hnb:nameS b.Name with _ | _
 ·have hres:blockR b=false:=by rw [blockR,hk,hnb]; rfl
  simp -implicitDefEqProofs only [cond_t,cond_f,zZ,zA,zB,zC,zD,zE,zG,zH,zI,zJ,zK,if_true,if_false,reduceCtorEq,zW,zX,zY,za,zb]
  first | exact fin (tb hres.symm) rfl | exact fin0 (tb hres.symm)
 have hres:blockR b=linesR b.Kind b.Lines:=by rw [blockR,hk,hnb]; rfl
 simp -implicitDefEqProofs only [zh,cond_t,cond_f,zZ,zA,zB,zC,zD,zE,zG,zH,zI,zJ,zK,if_true,if_false,reduceCtorEq,zW,zX,zY,za,zb]
 obtain ⟨ls,hls⟩:∃ ls,ls=b.Lines:=⟨_,rfl⟩
 have hlo:=hb.Lines
 rw [← hls] at hres y1 hlo ⊢
 refine loop_s [22,1,3,20,21] [1,3,20,21] (fun g:MB=>[(22,.t (.int .i64 (g.k:Nat)))]) (fun g=>σ++[.box [.t (.str b.Kind),.t (.str b.Name),.t (.lst 2 (ls.map SheetLine.ts))],.map g.c g.es]) (MB.I b.Kind ls) (fun g=>ls.length - g.k) ⟨0,0,[]⟩ (σ.length+2) (fun g=>by simp) (by omega) ⟨Nat.zero_le _,rfl,⟨_,MapIs.nil,fun p=>rfl⟩,MLt.nil⟩ rfl rfl ?_
 rintro ⟨k,c,es⟩ ⟨hk',hall,⟨f,hf0,hfv⟩,hlt0⟩
 simp only at hk' hall hf0 hfv hlt0
 simp -implicitDefEqProofs only [keep,zh,zZ,zA,zB,zC,zD,zE,zG,zH,zI,zJ,zK,if_true,if_false,reduceCtorEq,zW,zX,zY,za,zb]
 refine cond_split (fun h1=>?_) (fun h1=>?_)
 ·obtain ⟨x,hx,hlt⟩:=at_of h1
  have more:=i64_succ (show k<4611686018427387904 by omega)
  have hxo:=hlo.2 x (List.mem_of_getElem? hx)
  clear h1
  simp -implicitDefEqProofs only [hx,zV,zd,zm,yA,zh,SheetLine.ts,SheetLine.vs,more,cond_t,cond_f,zZ,zA,zB,zC,zD,zE,zG,zH,zI,zJ,zK,if_true,if_false,reduceCtorEq,zW,zX,zY,za,zb]
  refine call_pure (impl_SheetFits0 b.Kind x.Key x.Words hxo.Words _) ?_
  rcases hf:fitsR b.Kind x.Key x.Words with _ | _
  ·have hno:lineP b.Kind ls (x,k)=false:=by simp only [lineP,hf]; rfl
   simp -implicitDefEqProofs only [hf,hx,zV,zd,zm,yA,zh,SheetLine.ts,SheetLine.vs,more,cond_t,cond_f,zZ,zA,zB,zC,zD,zE,zG,zH,zI,zJ,zK,if_true,if_false,reduceCtorEq,zW,zX,zY,za,zb]
   first | exact fin (tb (by rw [hres,linesR,all_not (zip_at hx) hno])) rfl | exact fin0 (tb (by rw [hres,linesR,all_not (zip_at hx) hno]))
  obtain ⟨i,r,hri,hix,hro,hmany⟩:=fits_rule hf
  by_cases hk0:k=0
  ·have d0:decide (((k:Nat):Int) > 0)=false:=by simp; omega
   have hpv:prevL b.Kind ls k x=true:=by rw [hk0]; rfl
   simp -implicitDefEqProofs only [hf,d0,hx,zV,zd,zm,yA,zh,SheetLine.ts,SheetLine.vs,more,cond_t,cond_f,zZ,zA,zB,zC,zD,zE,zG,zH,zI,zJ,zK,if_true,if_false,reduceCtorEq,zW,zX,zY,za,zb]
   have hfl:=hf0.look (.t (.int .i64 0)) x.Key
   rw [hfv] at hfl
   obtain ⟨n,hn⟩:∃ n,n=cntK (ls.take k) x.Key:=⟨_,rfl⟩
   have hnle:n≤k:=by rw [hn]; exact cntK_le ls k x.Key
   rw [← hn,cntV] at hfl
   have hko:keysOk (.one .str) es=true:=hf0.keys (fun _=>rfl)
   have hl1:lookR false (.t (.int .i64 0)) (findM (.t (.str x.Key)) es)=.t (.int .i64 (n:Nat)):=hfl
   have hf':=hf0.put keyOf_str x.Key (.t (.int .i64 ((n+1:Nat):Int)))
   have hl2:lookR false (.t (.int .i64 0)) (findM (.t (.str x.Key)) (putM (.t (.str x.Key)) (.t (.int .i64 ((n+1:Nat):Int))) c es))=.t (.int .i64 ((n+1:Nat):Int)):=(hf'.look _ x.Key).trans (by simp [updF])
   have hko2:keysOk (.one .str) (putM (.t (.str x.Key)) (.t (.int .i64 ((n+1:Nat):Int))) c es)=true:=hf'.keys (fun _=>rfl)
   have morn:=i64_succ (show n<4611686018427387904 by omega)
   have hcn:∀ p,cntK (ls.take (k+1)) p=cntK (ls.take k) p+(if (x.Key == p)=true then 1 else 0):=fun p=>cntK_step hx p
   have hvals:∀ p,(updF f x.Key (.t (.int .i64 ((n+1:Nat):Int))) p).getD (.t (.int .i64 0))=cntV (cntK (ls.take (k+1)) p):=fun p=>by
    rw [hcn]
    by_cases hp:p=x.Key
    ·subst hp; simp only [updF,if_true,Option.getD_some,← hn,beq_self_eq_true]; rfl
    ·have:(x.Key == p)=false:=by simpa using fun e:x.Key=p=>hp e.symm
     rw [this]
     simp only [updF,hp,if_false]
     exact hfv p
   have hmlt:=hlt0.put c (k:=.t (.str x.Key)) (x:=.t (.int .i64 ((n+1:Nat):Int))) rfl rfl
   have hcx:cntK (ls.take (k+1)) x.Key=n+1:=by rw [hcn,← hn]; simp
   have hlast:lineP b.Kind ls (x,k)=cntOk r.Many (n+1):=by
    simp only [lineP,hf,hpv,hmany,hcx,Bool.true_and]
   have nxt:lineP b.Kind ls (x,k)=true→MB.I b.Kind ls ⟨k+1,clkM (kStr x.Key) c es,putM (kStr x.Key) (.t (.int .i64 ((n+1:Nat):Int))) c es⟩:=fun h=>⟨by simp only; omega,all_step (zip_at hx) hall h,⟨_,hf',hvals⟩,hmlt⟩
   have hh:True:=trivial
   simp -implicitDefEqProofs only [hko,hl1,morn,hl2,hko2,hx,zV,zd,zm,yA,zh,SheetLine.ts,SheetLine.vs,more,cond_t,cond_f,zZ,zA,zB,zC,zD,zE,zG,zH,zI,zJ,zK,if_true,if_false,reduceCtorEq,zW,zX,zY,za,zb]
   refine call_pure (impl_find b.Kind x.Key _) ?_
   rw [hro,ruleV,SheetRule.vs]
   simp -implicitDefEqProofs only [hko,hl1,morn,hl2,hko2,hx,zV,zd,zm,yA,zh,SheetLine.ts,SheetLine.vs,more,cond_t,cond_f,zZ,zA,zB,zC,zD,zE,zG,zH,zI,zJ,zK,if_true,if_false,reduceCtorEq,zW,zX,zY,za,zb]
   repeat' (first
     | ((with_reducible refine cond_known (fun h=>?_) (fun h=>?_)) <;> (replace hh:=And.intro h hh; clear h; simp -implicitDefEqProofs only [hh,cond_t,cond_f,hko2,hl2,hx,zV,zd,zm,yA,zh,SheetLine.ts,SheetLine.vs,more,cond_t,cond_f,zZ,zA,zB,zC,zD,zE,zG,zH,zI,zJ,zK,if_true,if_false,reduceCtorEq,zW,zX,zY,za,zb]))
     | (first | (refine fin (tb ?_) rfl; try simp only [Known] at hh; rw [hres,linesR,all_not (zip_at hx) (p:=lineP b.Kind ls) (by rw [hlast,cntOk]; grind)]) | (refine lk_s ⟨k+1,clkM (kStr x.Key) c es,putM (kStr x.Key) (.t (.int .i64 ((n+1:Nat):Int))) c es⟩ (τ:=[.box [.t (.str x.Key),.t (.lst 1 (x.Words.map tStr))],.box [.t (.str r.Key),.t (.lst 1 (r.Args.map tInt)),.t (.bool r.Many),.t (.lst 1 (r.Default.map tStr))]]) (by simp) (by omega) (by simp [kStr]) (by simp only; omega) (nxt ?_) (lt_stbm hmlt _ hσ rfl) (by simp [ltE,keep,eget,V.lt]) rfl; (try simp only [Known] at hh); rw [hlast,cntOk]; grind)))
  ·have d0:decide (((k:Nat):Int) > 0)=true:=by simp; omega
   obtain ⟨y,hy,hw⟩:=prev_of hx d0 y1
   have hyo:=hlo.2 y (List.mem_of_getElem? hy)
   have hpe:=prevL_some (kind:=b.Kind) (x:=x) hy (by omega)
   have hog:=order_ge b.Kind y x
   simp -implicitDefEqProofs only [hf,d0,hy,hw,hx,zV,zd,zm,yA,zh,SheetLine.ts,SheetLine.vs,more,cond_t,cond_f,zZ,zA,zB,zC,zD,zE,zG,zH,zI,zJ,zK,if_true,if_false,reduceCtorEq,zW,zX,zY,za,zb]
   refine call_pure (impl_order b.Kind y x hyo hxo _) ?_
   rcases hpv:lineLess b.Kind y x with _ | _
   ·have hno:lineP b.Kind ls (x,k)=false:=by simp only [lineP,hf,hpe,hpv]; rfl
    rw [hpv] at hog
    simp -implicitDefEqProofs only [hog,Bool.not_false,hx,zV,zd,zm,yA,zh,SheetLine.ts,SheetLine.vs,more,cond_t,cond_f,zZ,zA,zB,zC,zD,zE,zG,zH,zI,zJ,zK,if_true,if_false,reduceCtorEq,zW,zX,zY,za,zb]
    first | exact fin (tb (by rw [hres,linesR,all_not (zip_at hx) hno])) rfl | exact fin0 (tb (by rw [hres,linesR,all_not (zip_at hx) hno]))
   rw [hpv] at hog
   simp -implicitDefEqProofs only [hog,Bool.not_true,hx,zV,zd,zm,yA,zh,SheetLine.ts,SheetLine.vs,more,cond_t,cond_f,zZ,zA,zB,zC,zD,zE,zG,zH,zI,zJ,zK,if_true,if_false,reduceCtorEq,zW,zX,zY,za,zb]
   rw [← hpe] at hpv
   have hfl:=hf0.look (.t (.int .i64 0)) x.Key
   rw [hfv] at hfl
   obtain ⟨n,hn⟩:∃ n,n=cntK (ls.take k) x.Key:=⟨_,rfl⟩
   have hnle:n≤k:=by rw [hn]; exact cntK_le ls k x.Key
   rw [← hn,cntV] at hfl
   have hko:keysOk (.one .str) es=true:=hf0.keys (fun _=>rfl)
   have hl1:lookR false (.t (.int .i64 0)) (findM (.t (.str x.Key)) es)=.t (.int .i64 (n:Nat)):=hfl
   have hf':=hf0.put keyOf_str x.Key (.t (.int .i64 ((n+1:Nat):Int)))
   have hl2:lookR false (.t (.int .i64 0)) (findM (.t (.str x.Key)) (putM (.t (.str x.Key)) (.t (.int .i64 ((n+1:Nat):Int))) c es))=.t (.int .i64 ((n+1:Nat):Int)):=(hf'.look _ x.Key).trans (by simp [updF])
   have hko2:keysOk (.one .str) (putM (.t (.str x.Key)) (.t (.int .i64 ((n+1:Nat):Int))) c es)=true:=hf'.keys (fun _=>rfl)
   have morn:=i64_succ (show n<4611686018427387904 by omega)
   have hcn:∀ p,cntK (ls.take (k+1)) p=cntK (ls.take k) p+(if (x.Key == p)=true then 1 else 0):=fun p=>cntK_step hx p
   have hvals:∀ p,(updF f x.Key (.t (.int .i64 ((n+1:Nat):Int))) p).getD (.t (.int .i64 0))=cntV (cntK (ls.take (k+1)) p):=fun p=>by
    rw [hcn]
    by_cases hp:p=x.Key
    ·subst hp; simp only [updF,if_true,Option.getD_some,← hn,beq_self_eq_true]; rfl
    ·have:(x.Key == p)=false:=by simpa using fun e:x.Key=p=>hp e.symm
     rw [this]
     simp only [updF,hp,if_false]
     exact hfv p
   have hmlt:=hlt0.put c (k:=.t (.str x.Key)) (x:=.t (.int .i64 ((n+1:Nat):Int))) rfl rfl
   have hcx:cntK (ls.take (k+1)) x.Key=n+1:=by rw [hcn,← hn]; simp
   have hlast:lineP b.Kind ls (x,k)=cntOk r.Many (n+1):=by
    simp only [lineP,hf,hpv,hmany,hcx,Bool.true_and]
   have nxt:lineP b.Kind ls (x,k)=true→MB.I b.Kind ls ⟨k+1,clkM (kStr x.Key) c es,putM (kStr x.Key) (.t (.int .i64 ((n+1:Nat):Int))) c es⟩:=fun h=>⟨by simp only; omega,all_step (zip_at hx) hall h,⟨_,hf',hvals⟩,hmlt⟩
   have hh:True:=trivial
   simp -implicitDefEqProofs only [hko,hl1,morn,hl2,hko2,hx,zV,zd,zm,yA,zh,SheetLine.ts,SheetLine.vs,more,cond_t,cond_f,zZ,zA,zB,zC,zD,zE,zG,zH,zI,zJ,zK,if_true,if_false,reduceCtorEq,zW,zX,zY,za,zb]
   refine call_pure (impl_find b.Kind x.Key _) ?_
   rw [hro,ruleV,SheetRule.vs]
   simp -implicitDefEqProofs only [hko,hl1,morn,hl2,hko2,hx,zV,zd,zm,yA,zh,SheetLine.ts,SheetLine.vs,more,cond_t,cond_f,zZ,zA,zB,zC,zD,zE,zG,zH,zI,zJ,zK,if_true,if_false,reduceCtorEq,zW,zX,zY,za,zb]
   repeat' (first
     | ((with_reducible refine cond_known (fun h=>?_) (fun h=>?_)) <;> (replace hh:=And.intro h hh; clear h; simp -implicitDefEqProofs only [hh,cond_t,cond_f,hko2,hl2,hx,zV,zd,zm,yA,zh,SheetLine.ts,SheetLine.vs,more,cond_t,cond_f,zZ,zA,zB,zC,zD,zE,zG,zH,zI,zJ,zK,if_true,if_false,reduceCtorEq,zW,zX,zY,za,zb]))
     | (first | (refine fin (tb ?_) rfl; try simp only [Known] at hh; rw [hres,linesR,all_not (zip_at hx) (p:=lineP b.Kind ls) (by rw [hlast,cntOk]; grind)]) | (refine lk_s ⟨k+1,clkM (kStr x.Key) c es,putM (kStr x.Key) (.t (.int .i64 ((n+1:Nat):Int))) c es⟩ (τ:=[.box [.t (.str x.Key),.t (.lst 1 (x.Words.map tStr))],.box [.t (.str r.Key),.t (.lst 1 (r.Args.map tInt)),.t (.bool r.Many),.t (.lst 1 (r.Default.map tStr))]]) (by simp) (by omega) (by simp [kStr]) (by simp only; omega) (nxt ?_) (lt_stbm hmlt _ hσ rfl) (by simp [ltE,keep,eget,V.lt]) rfl; (try simp only [Known] at hh); rw [hlast,cntOk]; grind)))
 ·have hkk:=end_of h1 hk'
  have hall2:linesR b.Kind ls=true:=by
   rw [hkk] at hall
   rw [linesR,← hall,List.take_of_length_le (by simp)]
  simp -implicitDefEqProofs only [zZ,zA,zB,zC,zD,zE,zG,zH,zI,zJ,zK,if_true,if_false,reduceCtorEq,zW,zX,zY,za,zb]
  first | exact fin (tb (by rw [hres,hall2])) rfl | exact fin0 (tb (by rw [hres,hall2]))
end Go.Proofs.YtnnnemgbgilfaaaDoor.W
end
section
open Go Go.Ab
set_option maxHeartbeats 2000000
namespace Go.Proofs.YtnnnemgbgilfaaaDoor.W
def prevB (bs:List SheetBlock) (k:Nat) (x:SheetBlock):Bool:=k == 0 || (match bs[k - 1]? with
 | some y=>ahead y x
 | none=>true)
theorem prevB_some {bs:List SheetBlock} {k:Nat} {x y:SheetBlock} (h:bs[k - 1]?=some y) (h0:0<k):prevB bs k x=ahead y x:=by
 unfold prevB
 rw [h]
 have:(k == 0)=false:=by simp; omega
 rw [this]; rfl
def sheetP (bs:List SheetBlock) (q:SheetBlock × Nat):Bool:=blockR q.1 && prevB bs q.2 q.1
def sheetR (s:Sheet):Bool:=decide (s.Blocks.length≤60) && s.Blocks.zipIdx.all (sheetP s.Blocks)
theorem rules_zero (kind:List UInt8):((((rulesR kind).length:Nat):Int) == 0)=!kindOk kind:=by
 rcases hk:kindOk kind with _ | _
 ·rw [rulesR_none hk]; rfl
 ·obtain ⟨a,l,h⟩:=rules_cons hk
  rw [h,List.length_cons]
  simp
  omega
def c_impl_SheetValid:C:=(.seq (.ops [⟨some 1,none,.box (.t 0)⟩,⟨some 2,none,.mv (.c (.t (.bool false)))⟩]) (.seq (.seq (.ops [⟨some 5,none,.fieldAddr 0 (.t 1)⟩,⟨some 6,none,.load none (.t 5)⟩,⟨some 7,none,.len false (.t 6)⟩,⟨some 8,none,.bin .gtr (.t 7) (.c (.t (.int .i64 60)))⟩]) (.cond (.t 8) (.seq (.ops [⟨some 2,none,.mv (.c (.t (.bool false)))⟩]) .ret) .skip)) (.seq (.seq (.ops [⟨some 9,none,.fieldAddr 0 (.t 1)⟩,⟨some 10,none,.load none (.t 9)⟩,⟨some 11,none,.len false (.t 10)⟩,⟨some 12,none,.mv (.c (.t (.int .i64 0)))⟩]) (.block 0 (.loop (.seq (.ops [⟨some 13,none,.bin .lss (.t 12) (.t 11)⟩]) (.seq (.cond (.t 13) .skip (.exit 0)) (.seq (.block 1 (.seq (.ops [⟨some 14,none,.mv (.t 12)⟩,⟨some 15,none,.indexAddr 3 (.t 10) (.t 12)⟩,⟨some 16,none,.load (some 3) (.t 15)⟩,⟨some 4,none,.new [.t (.str []),.t (.str []),.nils]⟩,⟨some 3,none,.mv (.t 14)⟩,⟨none,none,.store 3 (.t 4) (.t 16)⟩]) (.seq (.drawn [.mk 0 false ⟨some 17,none,.load (some 3) (.t 4)⟩ [],.mk 1 false ⟨some 18,none,.call (.c (.fn (.func 41) [])) [.t 17]⟩ [],.mk 2 false ⟨some 19,none,.un .not (.t 18)⟩ [],.mk 3 false ⟨some 20,none,.mv (.t 19)⟩ [],.mk 4 false ⟨some 21,some ⟨20,false⟩,.mv (.t 3)⟩ [],.mk 5 false ⟨some 22,some ⟨20,false⟩,.bin .gtr (.t 21) (.c (.t (.int .i64 0)))⟩ [],.mk 6 false ⟨some 23,some ⟨20,false⟩,.mv (.t 22)⟩ [],.mk 7 false ⟨some 24,some ⟨23,true⟩,.fieldAddr 0 (.t 1)⟩ [],.mk 8 false ⟨some 25,some ⟨23,true⟩,.load none (.t 24)⟩ [],.mk 9 false ⟨some 26,some ⟨23,true⟩,.mv (.t 3)⟩ [],.mk 10 false ⟨some 27,some ⟨23,true⟩,.bin .sub (.t 26) (.c (.t (.int .i64 1)))⟩ [],.mk 11 false ⟨some 28,some ⟨23,true⟩,.indexAddr 3 (.t 25) (.t 27)⟩ [],.mk 12 false ⟨some 29,some ⟨23,true⟩,.load (some 3) (.t 28)⟩ [],.mk 13 false ⟨some 30,some ⟨23,true⟩,.load (some 3) (.t 4)⟩ [],.mk 14 false ⟨some 31,some ⟨23,true⟩,.call (.c (.fn (.func 42) [])) [.t 29,.t 30]⟩ [],.mk 15 false ⟨some 32,some ⟨23,true⟩,.bin .geq (.t 31) (.c (.t (.int .i64 0)))⟩ [],.mk 16 false ⟨some 33,some ⟨20,false⟩,.pick (.t 23) (.t 32) (.c (.t (.bool false)))⟩ [],.mk 17 false ⟨some 34,none,.pick (.t 20) (.c (.t (.bool true))) (.t 33)⟩ []]) (.cond (.t 34) (.seq (.ops [⟨some 2,none,.mv (.c (.t (.bool false)))⟩]) .ret) .skip)))) (.ops [⟨some 35,none,.bin .add (.t 12) (.c (.t (.int .i64 1)))⟩,⟨some 12,none,.mv (.t 35)⟩]))))))) (.seq (.ops [⟨some 2,none,.mv (.c (.t (.bool true)))⟩]) .ret))))
theorem k_impl_SheetValid:comp Tryd.prog 36 (Tryd.f12.body.getD .skip)=some c_impl_SheetValid:=by kernel_rfl
theorem impl_SheetValid (s:Sheet) (hs:s.Ok)  (σ:Store):ACalls Tryd.prog 12 [.agg (s.vs)] σ fun rr σ'=>rr=.t (.bool (sheetR s))∧σ'=σ:=by
 refine acalls_of Tryd.func12 (by decide +kernel) (code:=Tryd.f12.body.getD .skip) (n:=36) (c:=c_impl_SheetValid) (rs:=[(.tmp 2)]) rfl rfl k_impl_SheetValid (by kernel_rfl) (by simp) (fun hσ=>?_)
 have hh:True:=trivial
 have fin:∀ {u:V} {τ:Store},u=.t (.bool (sheetR s))→u.lt σ.length=true→retV σ.length (fun rr σ'=>rr=.t (.bool (sheetR s))∧σ'=σ) (σ++τ) (some [u]):=fun h h2=>ret_same rfl hσ h2 ⟨h,rfl⟩
 have fin0:∀ {u:V},u=.t (.bool (sheetR s))→retV σ.length (fun rr σ'=>rr=.t (.bool (sheetR s))∧σ'=σ) σ (some [u]):=fun h=>ret_same0 rfl ⟨h,rfl⟩
 have y1:=hs.Blocks.1
 simp -implicitDefEqProofs only [c_impl_SheetValid,Sheet.vs,zh,zZ,zA,zB,zC,zD,zE,zG,zH,zI,zJ,zK,if_true,if_false,reduceCtorEq,zW,zX,zY,za,zb]
 by_cases h60:s.Blocks.length≤60
 rotate_left
 ·have hres:sheetR s=false:=by rw [sheetR,decide_eq_false h60]; rfl
  have d60:decide (((s.Blocks.length:Nat):Int) > 60)=true:=by simp; omega
  simp -implicitDefEqProofs only [d60,cond_t,cond_f,zZ,zA,zB,zC,zD,zE,zG,zH,zI,zJ,zK,if_true,if_false,reduceCtorEq,zW,zX,zY,za,zb]
  first | exact fin (tb hres.symm) rfl | exact fin0 (tb hres.symm)
 have hres:sheetR s=s.Blocks.zipIdx.all (sheetP s.Blocks):=by rw [sheetR,decide_eq_true h60]; rfl
 have d60:decide (((s.Blocks.length:Nat):Int) > 60)=false:=by simp; omega
 simp -implicitDefEqProofs only [d60,cond_t,cond_f,zh,zZ,zA,zB,zC,zD,zE,zG,zH,zI,zJ,zK,if_true,if_false,reduceCtorEq,zW,zX,zY,za,zb]
 obtain ⟨bs,hbs⟩:∃ bs,bs=s.Blocks:=⟨_,rfl⟩
 have hso:=hs.Blocks
 rw [← hbs] at hres y1 hso ⊢
 refine loop_s [12,1,10,11] [1,10,11] (fun k:Nat=>[(12,.t (.int .i64 (k:Nat)))]) (fun _=>σ++[.box [.t (.lst 3 (bs.map SheetBlock.ts))]]) (fun k=>k≤bs.length∧(bs.zipIdx.take k).all (sheetP bs)=true) (fun k=>bs.length - k) 0 (σ.length+1) (fun g=>by simp) (by omega) ⟨Nat.zero_le _,rfl⟩ rfl rfl ?_
 rintro k ⟨hk',hall⟩
 simp -implicitDefEqProofs only [keep,zh,zZ,zA,zB,zC,zD,zE,zG,zH,zI,zJ,zK,if_true,if_false,reduceCtorEq,zW,zX,zY,za,zb]
 refine cond_split (fun h1=>?_) (fun h1=>?_)
 ·obtain ⟨x,hx,hlt⟩:=at_of h1
  have more:=i64_succ (show k<4611686018427387904 by omega)
  have hxo:=hso.2 x (List.mem_of_getElem? hx)
  have hnm:x.Name.length≤1048576:=hxo.Name
  clear h1
  simp -implicitDefEqProofs only [hx,zV,zd,zm,yA,zh,SheetBlock.ts,SheetBlock.vs,more,cond_t,cond_f,zZ,zA,zB,zC,zD,zE,zG,zH,zI,zJ,zK,if_true,if_false,reduceCtorEq,zW,zX,zY,za,zb]
  refine call_pure (impl_blockOk x hxo _) ?_
  rcases hbr:blockR x with _ | _
  ·have hno:sheetP bs (x,k)=false:=by simp only [sheetP,hbr]; rfl
   try simp -implicitDefEqProofs only [Bool.not_false,Bool.not_true,hx,zV,zd,zm,yA,zh,SheetBlock.ts,SheetBlock.vs,more,cond_t,cond_f,zZ,zA,zB,zC,zD,zE,zG,zH,zI,zJ,zK,if_true,if_false,reduceCtorEq,zW,zX,zY,za,zb]
   first | exact fin (tb (by rw [hres,all_not (zip_at hx) hno])) rfl | exact fin0 (tb (by rw [hres,all_not (zip_at hx) hno]))
  simp -implicitDefEqProofs only [Bool.not_true,hx,zV,zd,zm,yA,zh,SheetBlock.ts,SheetBlock.vs,more,cond_t,cond_f,zZ,zA,zB,zC,zD,zE,zG,zH,zI,zJ,zK,if_true,if_false,reduceCtorEq,zW,zX,zY,za,zb]
  by_cases hk0:k=0
  ·have d0:decide (((k:Nat):Int) > 0)=false:=by simp; omega
   have hpv:prevB bs k x=true:=by rw [hk0]; rfl
   try simp -implicitDefEqProofs only [d0,hx,zV,zd,zm,yA,zh,SheetBlock.ts,SheetBlock.vs,more,cond_t,cond_f,zZ,zA,zB,zC,zD,zE,zG,zH,zI,zJ,zK,if_true,if_false,reduceCtorEq,zW,zX,zY,za,zb]
   refine lk_s (k+1) (τ:=[.box [.t (.str x.Kind),.t (.str x.Name),.t (.lst 2 (x.Lines.map SheetLine.ts))]]) (by simp) (by omega) (by simp) (by omega) ⟨by omega,all_step (zip_at hx) hall ?_⟩ (lt_stb hσ rfl) (by simp [ltE,keep,eget,V.lt]) rfl
   simp only [sheetP,hbr,hpv,Bool.and_self]
  ·have d0:decide (((k:Nat):Int) > 0)=true:=by simp; omega
   obtain ⟨y,hy,hw⟩:=prev_of hx d0 y1
   have hyo:=hso.2 y (List.mem_of_getElem? hy)
   have hpe:=prevB_some (x:=x) hy (by omega)
   have hog:=cmp2_ge y x
   simp -implicitDefEqProofs only [d0,hy,hw,hx,zV,zd,zm,yA,zh,SheetBlock.ts,SheetBlock.vs,more,cond_t,cond_f,zZ,zA,zB,zC,zD,zE,zG,zH,zI,zJ,zK,if_true,if_false,reduceCtorEq,zW,zX,zY,za,zb]
   refine call_pure (impl_compare y x hyo hxo _) ?_
   rcases hpv:ahead y x with _ | _
   ·have hno:sheetP bs (x,k)=false:=by simp only [sheetP,hbr,hpe,hpv]; rfl
    rw [hpv] at hog
    simp -implicitDefEqProofs only [hog,Bool.not_false,Bool.not_true,hx,zV,zd,zm,yA,zh,SheetBlock.ts,SheetBlock.vs,more,cond_t,cond_f,zZ,zA,zB,zC,zD,zE,zG,zH,zI,zJ,zK,if_true,if_false,reduceCtorEq,zW,zX,zY,za,zb]
    first | exact fin (tb (by rw [hres,all_not (zip_at hx) hno])) rfl | exact fin0 (tb (by rw [hres,all_not (zip_at hx) hno]))
   rw [hpv] at hog
   simp -implicitDefEqProofs only [hog,Bool.not_false,Bool.not_true,hx,zV,zd,zm,yA,zh,SheetBlock.ts,SheetBlock.vs,more,cond_t,cond_f,zZ,zA,zB,zC,zD,zE,zG,zH,zI,zJ,zK,if_true,if_false,reduceCtorEq,zW,zX,zY,za,zb]
   rw [← hpe] at hpv
   refine lk_s (k+1) (τ:=[.box [.t (.str x.Kind),.t (.str x.Name),.t (.lst 2 (x.Lines.map SheetLine.ts))]]) (by simp) (by omega) (by simp) (by omega) ⟨by omega,all_step (zip_at hx) hall ?_⟩ (lt_stb hσ rfl) (by simp [ltE,keep,eget,V.lt]) rfl
   simp only [sheetP,hbr,hpv,Bool.and_self]
 ·have hkk:=end_of h1 hk'
  have hall2:bs.zipIdx.all (sheetP bs)=true:=by
   rw [hkk] at hall
   rw [← hall,List.take_of_length_le (by simp)]
  simp -implicitDefEqProofs only [zZ,zA,zB,zC,zD,zE,zG,zH,zI,zJ,zK,if_true,if_false,reduceCtorEq,zW,zX,zY,za,zb]
  first | exact fin (tb (by rw [hres,hall2])) rfl | exact fin0 (tb (by rw [hres,hall2]))
def c_spec_SheetValid:C:=(.seq (.ops [⟨some 1,none,.box (.t 0)⟩,⟨some 2,none,.mv (.c (.t (.bool false)))⟩]) (.seq (.seq (.ops [⟨some 5,none,.fieldAddr 0 (.t 1)⟩,⟨some 6,none,.load none (.t 5)⟩,⟨some 7,none,.len false (.t 6)⟩,⟨some 8,none,.bin .gtr (.t 7) (.c (.t (.int .i64 60)))⟩]) (.cond (.t 8) (.seq (.ops [⟨some 2,none,.mv (.c (.t (.bool false)))⟩]) .ret) .skip)) (.seq (.seq (.ops [⟨some 3,none,.mv (.c (.t (.int .i64 0)))⟩]) (.block 0 (.loop (.seq (.seq (.ops [⟨some 9,none,.mv (.t 3)⟩,⟨some 10,none,.fieldAddr 0 (.t 1)⟩,⟨some 11,none,.load none (.t 10)⟩,⟨some 12,none,.len false (.t 11)⟩,⟨some 13,none,.bin .lss (.t 9) (.t 12)⟩]) (.cond (.t 13) .skip (.exit 0))) (.seq (.block 1 (.seq (.ops [⟨some 16,none,.fieldAddr 0 (.t 1)⟩,⟨some 17,none,.load none (.t 16)⟩,⟨some 18,none,.mv (.t 3)⟩,⟨some 19,none,.indexAddr 3 (.t 17) (.t 18)⟩,⟨some 20,none,.load (some 3) (.t 19)⟩,⟨some 4,none,.new [.t (.str []),.t (.str []),.nils]⟩,⟨none,none,.store 3 (.t 4) (.t 20)⟩]) (.seq (.drawn [.mk 0 false ⟨some 21,none,.fieldAddr 0 (.t 4)⟩ [],.mk 1 false ⟨some 22,none,.load none (.t 21)⟩ [],.mk 2 false ⟨some 23,none,.call (.c (.fn (.func 33) [])) [.t 22]⟩ [],.mk 3 false ⟨some 24,none,.len false (.t 23)⟩ [],.mk 4 false ⟨some 25,none,.bin .eql (.t 24) (.c (.t (.int .i64 0)))⟩ [],.mk 5 false ⟨some 26,none,.mv (.t 25)⟩ [],.mk 6 false ⟨some 27,some ⟨26,false⟩,.fieldAddr 1 (.t 4)⟩ [],.mk 7 false ⟨some 28,some ⟨26,false⟩,.load none (.t 27)⟩ [],.mk 8 false ⟨some 29,some ⟨26,false⟩,.call (.c (.fn (.func 38) [])) [.t 28]⟩ [],.mk 9 false ⟨some 30,some ⟨26,false⟩,.un .not (.t 29)⟩ [],.mk 10 false ⟨some 31,none,.pick (.t 26) (.c (.t (.bool true))) (.t 30)⟩ [],.mk 11 false ⟨some 32,none,.mv (.t 31)⟩ [],.mk 12 false ⟨some 33,some ⟨32,false⟩,.fieldAddr 0 (.t 4)⟩ [],.mk 13 false ⟨some 34,some ⟨32,false⟩,.load none (.t 33)⟩ [],.mk 14 false ⟨some 35,some ⟨32,false⟩,.fieldAddr 2 (.t 4)⟩ [],.mk 15 false ⟨some 36,some ⟨32,false⟩,.load none (.t 35)⟩ [],.mk 16 false ⟨some 37,some ⟨32,false⟩,.call (.c (.fn (.func 39) [])) [.t 34,.t 36]⟩ [],.mk 17 false ⟨some 38,some ⟨32,false⟩,.un .not (.t 37)⟩ [],.mk 18 false ⟨some 39,none,.pick (.t 32) (.c (.t (.bool true))) (.t 38)⟩ [],.mk 19 false ⟨some 40,none,.mv (.t 39)⟩ [],.mk 20 false ⟨some 41,some ⟨40,false⟩,.mv (.t 3)⟩ [],.mk 21 false ⟨some 42,some ⟨40,false⟩,.bin .gtr (.t 41) (.c (.t (.int .i64 0)))⟩ [],.mk 22 false ⟨some 43,some ⟨40,false⟩,.mv (.t 42)⟩ [],.mk 23 false ⟨some 44,some ⟨43,true⟩,.fieldAddr 0 (.t 1)⟩ [],.mk 24 false ⟨some 45,some ⟨43,true⟩,.load none (.t 44)⟩ [],.mk 25 false ⟨some 46,some ⟨43,true⟩,.mv (.t 3)⟩ [],.mk 26 false ⟨some 47,some ⟨43,true⟩,.bin .sub (.t 46) (.c (.t (.int .i64 1)))⟩ [],.mk 27 false ⟨some 48,some ⟨43,true⟩,.indexAddr 3 (.t 45) (.t 47)⟩ [],.mk 28 false ⟨some 49,some ⟨43,true⟩,.load (some 3) (.t 48)⟩ [],.mk 29 false ⟨some 50,some ⟨43,true⟩,.load (some 3) (.t 4)⟩ [],.mk 30 false ⟨some 51,some ⟨43,true⟩,.call (.c (.fn (.func 40) [])) [.t 49,.t 50]⟩ [],.mk 31 false ⟨some 52,some ⟨43,true⟩,.un .not (.t 51)⟩ [],.mk 32 false ⟨some 53,some ⟨40,false⟩,.pick (.t 43) (.t 52) (.c (.t (.bool false)))⟩ [],.mk 33 false ⟨some 54,none,.pick (.t 40) (.c (.t (.bool true))) (.t 53)⟩ []]) (.cond (.t 54) (.seq (.ops [⟨some 2,none,.mv (.c (.t (.bool false)))⟩]) .ret) .skip)))) (.ops [⟨some 14,none,.mv (.t 3)⟩,⟨some 15,none,.bin .add (.t 14) (.c (.t (.int .i64 1)))⟩,⟨some 3,none,.mv (.t 15)⟩])))))) (.seq (.ops [⟨some 2,none,.mv (.c (.t (.bool true)))⟩]) .ret))))
theorem k_spec_SheetValid:comp Tryd.prog 55 (Tryd.f11.body.getD .skip)=some c_spec_SheetValid:=by kernel_rfl
theorem spec_SheetValid (s:Sheet) (hs:s.Ok)  (σ:Store):ACalls Tryd.prog 11 [.agg (s.vs)] σ fun rr σ'=>rr=.t (.bool (sheetR s))∧σ'=σ:=by
 refine acalls_of Tryd.func11 (by decide +kernel) (code:=Tryd.f11.body.getD .skip) (n:=55) (c:=c_spec_SheetValid) (rs:=[(.tmp 2)]) rfl rfl k_spec_SheetValid (by kernel_rfl) (by simp) (fun hσ=>?_)
 have hh:True:=trivial
 have fin:∀ {u:V} {τ:Store},u=.t (.bool (sheetR s))→u.lt σ.length=true→retV σ.length (fun rr σ'=>rr=.t (.bool (sheetR s))∧σ'=σ) (σ++τ) (some [u]):=fun h h2=>ret_same rfl hσ h2 ⟨h,rfl⟩
 have fin0:∀ {u:V},u=.t (.bool (sheetR s))→retV σ.length (fun rr σ'=>rr=.t (.bool (sheetR s))∧σ'=σ) σ (some [u]):=fun h=>ret_same0 rfl ⟨h,rfl⟩
 have y1:=hs.Blocks.1
 simp -implicitDefEqProofs only [c_spec_SheetValid,Sheet.vs,zh,zZ,zA,zB,zC,zD,zE,zG,zH,zI,zJ,zK,if_true,if_false,reduceCtorEq,zW,zX,zY,za,zb]
 by_cases h60:s.Blocks.length≤60
 rotate_left
 ·have hres:sheetR s=false:=by rw [sheetR,decide_eq_false h60]; rfl
  have d60:decide (((s.Blocks.length:Nat):Int) > 60)=true:=by simp; omega
  simp -implicitDefEqProofs only [d60,cond_t,cond_f,zZ,zA,zB,zC,zD,zE,zG,zH,zI,zJ,zK,if_true,if_false,reduceCtorEq,zW,zX,zY,za,zb]
  first | exact fin (tb hres.symm) rfl | exact fin0 (tb hres.symm)
 have hres:sheetR s=s.Blocks.zipIdx.all (sheetP s.Blocks):=by rw [sheetR,decide_eq_true h60]; rfl
 have d60:decide (((s.Blocks.length:Nat):Int) > 60)=false:=by simp; omega
 simp -implicitDefEqProofs only [d60,cond_t,cond_f,zh,zZ,zA,zB,zC,zD,zE,zG,zH,zI,zJ,zK,if_true,if_false,reduceCtorEq,zW,zX,zY,za,zb]
 obtain ⟨bs,hbs⟩:∃ bs,bs=s.Blocks:=⟨_,rfl⟩
 have hso:=hs.Blocks
 rw [← hbs] at hres y1 hso ⊢
 refine loop_s [3,1] [1] (fun k:Nat=>[(3,.t (.int .i64 (k:Nat)))]) (fun _=>σ++[.box [.t (.lst 3 (bs.map SheetBlock.ts))]]) (fun k=>k≤bs.length∧(bs.zipIdx.take k).all (sheetP bs)=true) (fun k=>bs.length - k) 0 (σ.length+1) (fun g=>by simp) (by omega) ⟨Nat.zero_le _,rfl⟩ rfl rfl ?_
 rintro k ⟨hk',hall⟩
 simp -implicitDefEqProofs only [keep,zh,zZ,zA,zB,zC,zD,zE,zG,zH,zI,zJ,zK,if_true,if_false,reduceCtorEq,zW,zX,zY,za,zb]
 refine cond_split (fun h1=>?_) (fun h1=>?_)
 ·obtain ⟨x,hx,hlt⟩:=at_of h1
  have more:=i64_succ (show k<4611686018427387904 by omega)
  have hxo:=hso.2 x (List.mem_of_getElem? hx)
  have hnm:x.Name.length≤1048576:=hxo.Name
  clear h1
  simp -implicitDefEqProofs only [hx,zV,zd,zm,yA,zh,SheetBlock.ts,SheetBlock.vs,more,cond_t,cond_f,zZ,zA,zB,zC,zD,zE,zG,zH,zI,zJ,zK,if_true,if_false,reduceCtorEq,zW,zX,zY,za,zb]
  have hrz:=rules_zero x.Kind
  refine call_pure (spec_SheetRules x.Kind _) ?_
  rcases hk:kindOk x.Kind with _ | _
  ·have hbr:blockR x=false:=by rw [blockR,hk]; rfl
   rw [hk] at hrz
   simp -implicitDefEqProofs only [hrz,hx,zV,zd,zm,yA,zh,SheetBlock.ts,SheetBlock.vs,more,cond_t,cond_f,zZ,zA,zB,zC,zD,zE,zG,zH,zI,zJ,zK,if_true,if_false,reduceCtorEq,zW,zX,zY,za,zb]
   have hno:sheetP bs (x,k)=false:=by simp only [sheetP,hbr]; rfl
   try simp -implicitDefEqProofs only [Bool.not_false,Bool.not_true,hx,zV,zd,zm,yA,zh,SheetBlock.ts,SheetBlock.vs,more,cond_t,cond_f,zZ,zA,zB,zC,zD,zE,zG,zH,zI,zJ,zK,if_true,if_false,reduceCtorEq,zW,zX,zY,za,zb]
   first | exact fin (tb (by rw [hres,all_not (zip_at hx) hno])) rfl | exact fin0 (tb (by rw [hres,all_not (zip_at hx) hno]))
  rw [hk] at hrz
  simp -implicitDefEqProofs only [hrz,Bool.not_true,hx,zV,zd,zm,yA,zh,SheetBlock.ts,SheetBlock.vs,more,cond_t,cond_f,zZ,zA,zB,zC,zD,zE,zG,zH,zI,zJ,zK,if_true,if_false,reduceCtorEq,zW,zX,zY,za,zb]
  refine call_pure (spec_l38NameOk x.Name hnm _) ?_
  rcases hnb:nameS x.Name with _ | _
  ·have hbr:blockR x=false:=by rw [blockR,hk,hnb]; rfl
   have hno:sheetP bs (x,k)=false:=by simp only [sheetP,hbr]; rfl
   try simp -implicitDefEqProofs only [Bool.not_false,Bool.not_true,hx,zV,zd,zm,yA,zh,SheetBlock.ts,SheetBlock.vs,more,cond_t,cond_f,zZ,zA,zB,zC,zD,zE,zG,zH,zI,zJ,zK,if_true,if_false,reduceCtorEq,zW,zX,zY,za,zb]
   first | exact fin (tb (by rw [hres,all_not (zip_at hx) hno])) rfl | exact fin0 (tb (by rw [hres,all_not (zip_at hx) hno]))
  simp -implicitDefEqProofs only [Bool.not_true,hx,zV,zd,zm,yA,zh,SheetBlock.ts,SheetBlock.vs,more,cond_t,cond_f,zZ,zA,zB,zC,zD,zE,zG,zH,zI,zJ,zK,if_true,if_false,reduceCtorEq,zW,zX,zY,za,zb]
  refine call_pure (spec_l39LinesOk x.Kind x.Lines hxo.Lines _) ?_
  rcases hll:linesR x.Kind x.Lines with _ | _
  ·have hbr:blockR x=false:=by rw [blockR,hk,hnb,hll]; rfl
   have hno:sheetP bs (x,k)=false:=by simp only [sheetP,hbr]; rfl
   try simp -implicitDefEqProofs only [Bool.not_false,Bool.not_true,hx,zV,zd,zm,yA,zh,SheetBlock.ts,SheetBlock.vs,more,cond_t,cond_f,zZ,zA,zB,zC,zD,zE,zG,zH,zI,zJ,zK,if_true,if_false,reduceCtorEq,zW,zX,zY,za,zb]
   first | exact fin (tb (by rw [hres,all_not (zip_at hx) hno])) rfl | exact fin0 (tb (by rw [hres,all_not (zip_at hx) hno]))
  have hbr:blockR x=true:=by rw [blockR,hk,hnb,hll]; rfl
  try simp -implicitDefEqProofs only [Bool.not_true,hx,zV,zd,zm,yA,zh,SheetBlock.ts,SheetBlock.vs,more,cond_t,cond_f,zZ,zA,zB,zC,zD,zE,zG,zH,zI,zJ,zK,if_true,if_false,reduceCtorEq,zW,zX,zY,za,zb]
  by_cases hk0:k=0
  ·have d0:decide (((k:Nat):Int) > 0)=false:=by simp; omega
   have hpv:prevB bs k x=true:=by rw [hk0]; rfl
   try simp -implicitDefEqProofs only [d0,hx,zV,zd,zm,yA,zh,SheetBlock.ts,SheetBlock.vs,more,cond_t,cond_f,zZ,zA,zB,zC,zD,zE,zG,zH,zI,zJ,zK,if_true,if_false,reduceCtorEq,zW,zX,zY,za,zb]
   refine lk_s (k+1) (τ:=[.box [.t (.str x.Kind),.t (.str x.Name),.t (.lst 2 (x.Lines.map SheetLine.ts))]]) (by simp) (by omega) (by simp) (by omega) ⟨by omega,all_step (zip_at hx) hall ?_⟩ (lt_stb hσ rfl) (by simp [ltE,keep,eget,V.lt]) rfl
   simp only [sheetP,hbr,hpv,Bool.and_self]
  ·have d0:decide (((k:Nat):Int) > 0)=true:=by simp; omega
   obtain ⟨y,hy,hw⟩:=prev_of hx d0 y1
   have hyo:=hso.2 y (List.mem_of_getElem? hy)
   have hpe:=prevB_some (x:=x) hy (by omega)
   have hog:=cmp2_ge y x
   simp -implicitDefEqProofs only [d0,hy,hw,hx,zV,zd,zm,yA,zh,SheetBlock.ts,SheetBlock.vs,more,cond_t,cond_f,zZ,zA,zB,zC,zD,zE,zG,zH,zI,zJ,zK,if_true,if_false,reduceCtorEq,zW,zX,zY,za,zb]
   refine call_pure (spec_l39Ahead y x hyo hxo _) ?_
   rcases hpv:ahead y x with _ | _
   ·have hno:sheetP bs (x,k)=false:=by simp only [sheetP,hbr,hpe,hpv]; rfl
    rw [hpv] at hog
    simp -implicitDefEqProofs only [hog,Bool.not_false,Bool.not_true,hx,zV,zd,zm,yA,zh,SheetBlock.ts,SheetBlock.vs,more,cond_t,cond_f,zZ,zA,zB,zC,zD,zE,zG,zH,zI,zJ,zK,if_true,if_false,reduceCtorEq,zW,zX,zY,za,zb]
    first | exact fin (tb (by rw [hres,all_not (zip_at hx) hno])) rfl | exact fin0 (tb (by rw [hres,all_not (zip_at hx) hno]))
   rw [hpv] at hog
   simp -implicitDefEqProofs only [hog,Bool.not_false,Bool.not_true,hx,zV,zd,zm,yA,zh,SheetBlock.ts,SheetBlock.vs,more,cond_t,cond_f,zZ,zA,zB,zC,zD,zE,zG,zH,zI,zJ,zK,if_true,if_false,reduceCtorEq,zW,zX,zY,za,zb]
   rw [← hpe] at hpv
   refine lk_s (k+1) (τ:=[.box [.t (.str x.Kind),.t (.str x.Name),.t (.lst 2 (x.Lines.map SheetLine.ts))]]) (by simp) (by omega) (by simp) (by omega) ⟨by omega,all_step (zip_at hx) hall ?_⟩ (lt_stb hσ rfl) (by simp [ltE,keep,eget,V.lt]) rfl
   simp only [sheetP,hbr,hpv,Bool.and_self]
 ·have hkk:=end_of h1 hk'
  have hall2:bs.zipIdx.all (sheetP bs)=true:=by
   rw [hkk] at hall
   rw [← hall,List.take_of_length_le (by simp)]
  simp -implicitDefEqProofs only [zZ,zA,zB,zC,zD,zE,zG,zH,zI,zJ,zK,if_true,if_false,reduceCtorEq,zW,zX,zY,za,zb]
  first | exact fin (tb (by rw [hres,hall2])) rfl | exact fin0 (tb (by rw [hres,hall2]))
end Go.Proofs.YtnnnemgbgilfaaaDoor.W
end
