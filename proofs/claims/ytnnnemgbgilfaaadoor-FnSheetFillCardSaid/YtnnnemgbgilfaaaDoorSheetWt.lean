/- What the law draws. Conditions: none. -/
/- The law's comparing of what is the same; results that are frozen. Conditions: none. -/
import Derived.Test.YtnnnemgbgilfaaaDoorSheetDrN
import Derived.Test.YtnnnemgbgilfaaaDoorSheetLaw
import Derived.Test.YtnnnemgbgilfaaaDoorSheetFillR
import Derived.Test.YtnnnemgbgilfaaaDoorSheetTrimR
import Derived.Test.YtnnnemgbgilfaaaDoorSheetGet2
set_option linter.unusedSimpArgs false
set_option linter.unusedVariables false
set_option linter.defProp false
open Go.Ab renaming ds_get → zM, ds_get0 → zN, ds_id → zQ, ds_id0 → zR, ds_ids → zS, ds_ids0 → zT, ds_len → zL, ds_set → zO, ds_set0 → zP, eget → zC, env0 → zD, isNilP → zI, isNilS → zJ, lenSl → zH, lenStr → zG, nat_nn → zV, opv → zA, opvs → zB, putAt → zK, q_rows_r → zU, setD → zE
open List renaming getElem?_cons_succ → zo, getElem?_cons_zero → zn, getElem?_map → zm, length_cons → zj, length_map → zh, length_nil → zk, length_set → zl, nil_append → zr, set_cons_succ → zq, set_cons_zero → zp
open Nat renaming reduceAdd → zb, reduceEqDiff → zX, reduceLT → zf, reduceLeDiff → zW, reduceMul → za, reduceSub → zY, zero_add → ze, zero_le → zd
open Option renaming map_some → yA
section
open Go Go.Ab
set_option maxHeartbeats 2000000
namespace Go.Proofs.YtnnnemgbgilfaaaDoor.W
theorem SheetQ.two {r:V} (h:SheetQ 61 r):SheetQ2 r:=by
 obtain ⟨bs,rfl,h1,h2⟩:=h
 exact ⟨bs,rfl,by omega,fun b hb=>(h2 b hb).mono (by omega)⟩
def c_spec_l39Any:C:=(.seq (.ops [⟨some 2,none,.new [.nils]⟩]) (.seq (.ops [⟨some 4,none,.mv (.t 0)⟩,⟨some 5,none,.call (.c (.fn (.func 57) [])) [.t 4]⟩,⟨some 3,none,.new [.nils]⟩,⟨none,none,.store 1 (.t 3) (.t 5)⟩]) (.seq (.seq (.ops [⟨some 6,none,.mv (.t 0)⟩,⟨some 7,none,.call (.c (.fn (.func 47) [])) [.t 6,.c (.t (.int .i64 16))]⟩,⟨some 8,none,.bin .eql (.t 7) (.c (.t (.int .i64 0)))⟩]) (.cond (.t 8) (.seq (.ops [⟨some 9,none,.mv (.t 0)⟩,⟨some 10,none,.load (some 1) (.t 3)⟩,⟨some 11,none,.call (.c (.fn (.func 58) [])) [.t 9,.t 10]⟩,⟨none,none,.store 1 (.t 2) (.t 11)⟩]) .ret) .skip)) (.seq (.ops [⟨some 12,none,.load (some 1) (.t 3)⟩,⟨none,none,.store 1 (.t 2) (.t 12)⟩]) .ret))))
theorem k_spec_l39Any:comp Tryd.prog 13 (Tryd.f23.body.getD .skip)=some c_spec_l39Any:=by kernel_rfl
theorem d_any (l:List UInt8) (hl:l.length≤2000) (id:Nat):DrawC Tryd.prog 23 [.ptr id 0] l id 2300 SheetQ2:=by
 intro A p hid hp
 refine acalls_draw ?_
 refine acalls_of Tryd.func23 (by decide +kernel) (code:=Tryd.f23.body.getD .skip) (n:=13) (c:=c_spec_l39Any) (rs:=[(.cell 2 (some 1))]) rfl rfl k_spec_l39Any (by kernel_rfl) (by simp) (fun hσ=>?_)
 simp -implicitDefEqProofs only [zL,zM,zN,zO,zP,zQ hid,zR hid,zS hid,zT,zl,zU,yA,zj,zk,ze,zf,true_and,zV,zd,zh,zr,zn,zo,zp,zq,c_spec_l39Any,zZ,zA,zB,zC,zD,zE,zG,zH,zI,zJ,zK,if_true,if_false,reduceCtorEq,zW,zX,zY,za,zb]
 refine call_draw (d_draw l hl id) hid (by omega) ?_
 rintro r q1 hq1a hq1b ⟨bs,rfl,hbs⟩
 simp -implicitDefEqProofs only [zL,zM,zN,zO,zP,zQ hid,zR hid,zS hid,zT,zl,zU,yA,zj,zk,ze,zf,true_and,zV,zd,zh,zr,zn,zo,zp,zq,zZ,zA,zB,zC,zD,zE,zG,zH,zI,zJ,zK,if_true,if_false,reduceCtorEq,zW,zX,zY,za,zb]
 refine call_draw (d_pick l hl id 16 (by omega) (by omega)) hid (by omega) ?_
 rintro r q2 hq2a hq2b ⟨x,rfl,hx⟩
 simp -implicitDefEqProofs only [zL,zM,zN,zO,zP,zQ hid,zR hid,zS hid,zT,zl,zU,yA,zj,zk,ze,zf,true_and,zV,zd,zh,zr,zn,zo,zp,zq,zZ,zA,zB,zC,zD,zE,zG,zH,zI,zJ,zK,if_true,if_false,reduceCtorEq,zW,zX,zY,za,zb]
 refine cond_split (fun c0=>?_) (fun c0=>?_)
 ·simp -implicitDefEqProofs only [zL,zM,zN,zO,zP,zQ hid,zR hid,zS hid,zT,zl,zU,yA,zj,zk,ze,zf,true_and,zV,zd,zh,zr,zn,zo,zp,zq,zZ,zA,zB,zC,zD,zE,zG,zH,zI,zJ,zK,if_true,if_false,reduceCtorEq,zW,zX,zY,za,zb]
  refine call_draw (d_spoil l hl id bs hbs) hid (by omega) ?_
  rintro r q3 hq3a hq3b ⟨bs2,rfl,hb2⟩
  simp -implicitDefEqProofs only [zL,zM,zN,zO,zP,zQ hid,zR hid,zS hid,zT,zl,zU,yA,zj,zk,ze,zf,true_and,zV,zd,zh,zr,zn,zo,zp,zq,zZ,zA,zB,zC,zD,zE,zG,zH,zI,zJ,zK,if_true,if_false,reduceCtorEq,zW,zX,zY,za,zb]
  exact fin_draw (by omega) (by omega) (fz_agg _ _ [tSheetBlockS bs2]) ⟨bs2,rfl,hb2⟩
 ·simp -implicitDefEqProofs only [zL,zM,zN,zO,zP,zQ hid,zR hid,zS hid,zT,zl,zU,yA,zj,zk,ze,zf,true_and,zV,zd,zh,zr,zn,zo,zp,zq,zZ,zA,zB,zC,zD,zE,zG,zH,zI,zJ,zK,if_true,if_false,reduceCtorEq,zW,zX,zY,za,zb]
  exact fin_draw (by omega) (by omega) (fz_agg _ _ [tSheetBlockS bs]) (SheetQ.two ⟨bs,rfl,hbs⟩)
def c_spec_DrawSheetFill:C:=(.seq (.ops [⟨some 2,none,.new [.nils]⟩]) (.seq (.ops [⟨some 3,none,.mv (.t 0)⟩,⟨some 4,none,.call (.c (.fn (.func 24) [])) [.t 3]⟩,⟨some 5,none,.call (.c (.fn (.func 23) [])) [.t 4]⟩,⟨none,none,.store 1 (.t 2) (.t 5)⟩]) .ret))
theorem k_spec_DrawSheetFill:comp Tryd.prog 6 (Tryd.f5.body.getD .skip)=some c_spec_DrawSheetFill:=by kernel_rfl
theorem spec_DrawSheetFill (c:List UInt8) (σ:Store):ACalls Tryd.prog 5 [.t (.lst 1 (byteT c))] σ fun r s=>SheetQ2 r∧s=σ:=by
 refine acalls_of Tryd.func5 (by decide +kernel) (code:=Tryd.f5.body.getD .skip) (n:=6) (c:=c_spec_DrawSheetFill) (rs:=[(.cell 2 (some 1))]) rfl rfl k_spec_DrawSheetFill (by kernel_rfl) (by simp) (fun hσ=>?_)
 simp -implicitDefEqProofs only [c_spec_DrawSheetFill,zZ,zA,zB,zC,zD,zE,zG,zH,zI,zJ,zK,if_true,if_false,reduceCtorEq,zW,zX,zY,za,zb]
 refine call_by (by rw [List.append_nil]; exact open_rd c _) ?_
 rintro r σ' ⟨l,hl,rfl,rfl⟩
 simp -implicitDefEqProofs only [zZ,zA,zB,zC,zD,zE,zG,zH,zI,zJ,zK,if_true,if_false,reduceCtorEq,zW,zX,zY,za,zb]
 refine call_draw_at (p:=0) (d_any l hl (σ.length+1)) (by simp) (by omega) ?_
 rintro r q hqa hqb ⟨bs,rfl,h1,h2⟩
 simp -implicitDefEqProofs only [zZ,zA,zB,zC,zD,zE,zG,zH,zI,zJ,zK,if_true,if_false,reduceCtorEq,zW,zX,zY,za,zb]
 exact ret_same rfl hσ rfl ⟨⟨bs,rfl,h1,h2⟩,rfl⟩
def GetQ (r:V):Prop:=∃ (bs:List SheetBlock) (k n ky:List UInt8),r=.tup [.agg [.t (tSheetBlockS bs)],.t (.str k),.t (.str n),.t (.str ky)]∧(bs.length≤62∧∀ b∈bs,SmB 12 b)∧k.length≤1048576∧n.length≤1048576∧ky.length≤1048576
def c_spec_DrawSheetGet:C:=(.seq (.ops [⟨some 2,none,.new [.nils]⟩,⟨some 3,none,.mv (.c (.t (.str [])))⟩,⟨some 4,none,.mv (.c (.t (.str [])))⟩,⟨some 5,none,.mv (.c (.t (.str [])))⟩]) (.seq (.ops [⟨some 10,none,.mv (.t 0)⟩,⟨some 11,none,.call (.c (.fn (.func 24) [])) [.t 10]⟩,⟨some 6,none,.mv (.t 11)⟩]) (.seq (.ops [⟨some 12,none,.mv (.t 6)⟩,⟨some 13,none,.call (.c (.fn (.func 23) [])) [.t 12]⟩,⟨some 7,none,.new [.nils]⟩,⟨none,none,.store 1 (.t 7) (.t 13)⟩]) (.seq (.seq (.ops [⟨some 14,none,.fieldAddr 0 (.t 7)⟩,⟨some 15,none,.load none (.t 14)⟩,⟨some 16,none,.len false (.t 15)⟩,⟨some 17,none,.bin .gtr (.t 16) (.c (.t (.int .i64 0)))⟩,⟨some 18,none,.mv (.t 17)⟩,⟨some 19,some ⟨18,true⟩,.mv (.t 6)⟩,⟨some 20,some ⟨18,true⟩,.call (.c (.fn (.func 47) [])) [.t 19,.c (.t (.int .i64 8))]⟩,⟨some 21,some ⟨18,true⟩,.bin .gtr (.t 20) (.c (.t (.int .i64 0)))⟩,⟨some 22,none,.pick (.t 18) (.t 21) (.c (.t (.bool false)))⟩]) (.cond (.t 22) (.seq (.drawnP 8 [.t (.str []),.t (.str []),.nils] [.mk 0 false ⟨some 23,none,.fieldAddr 0 (.t 7)⟩ [],.mk 1 false ⟨some 24,none,.load none (.t 23)⟩ [],.mk 2 false ⟨some 25,none,.mv (.t 6)⟩ [],.mk 3 false ⟨some 26,none,.fieldAddr 0 (.t 7)⟩ [],.mk 4 false ⟨some 27,none,.load none (.t 26)⟩ [],.mk 5 false ⟨some 28,none,.len false (.t 27)⟩ [],.mk 6 true ⟨some 29,none,.call (.c (.fn (.func 47) [])) [.t 25,.t 28]⟩ [⟨some 8,none,.newP [.t (.str []),.t (.str []),.nils]⟩,⟨some 24,none,.load none (.t 23)⟩],.mk 7 false ⟨some 30,none,.indexAddr 3 (.t 24) (.t 29)⟩ [],.mk 8 false ⟨some 31,none,.load (some 3) (.t 30)⟩ [],.mk 10 false ⟨none,none,.store 3 (.t 8) (.t 31)⟩ []]) (.seq (.ops [⟨some 32,none,.fieldAddr 0 (.t 8)⟩,⟨some 33,none,.load none (.t 32)⟩,⟨some 34,none,.call (.c (.fn (.func 33) [])) [.t 33]⟩,⟨some 9,none,.mv (.t 34)⟩]) (.seq (.seq (.ops [⟨some 35,none,.mv (.t 9)⟩,⟨some 36,none,.len false (.t 35)⟩,⟨some 37,none,.bin .gtr (.t 36) (.c (.t (.int .i64 0)))⟩,⟨some 38,none,.mv (.t 37)⟩,⟨some 39,some ⟨38,true⟩,.mv (.t 6)⟩,⟨some 40,some ⟨38,true⟩,.call (.c (.fn (.func 47) [])) [.t 39,.c (.t (.int .i64 8))]⟩,⟨some 41,some ⟨38,true⟩,.bin .gtr (.t 40) (.c (.t (.int .i64 0)))⟩,⟨some 42,none,.pick (.t 38) (.t 41) (.c (.t (.bool false)))⟩]) (.cond (.t 42) (.seq (.drawn [.mk 0 false ⟨some 43,none,.load (some 1) (.t 7)⟩ [],.mk 1 false ⟨some 44,none,.fieldAddr 0 (.t 8)⟩ [],.mk 2 false ⟨some 45,none,.load none (.t 44)⟩ [],.mk 3 false ⟨some 46,none,.fieldAddr 1 (.t 8)⟩ [],.mk 4 false ⟨some 47,none,.load none (.t 46)⟩ [],.mk 5 false ⟨some 48,none,.mv (.t 9)⟩ [],.mk 6 false ⟨some 49,none,.mv (.t 6)⟩ [],.mk 7 false ⟨some 50,none,.mv (.t 9)⟩ [],.mk 8 false ⟨some 51,none,.len false (.t 50)⟩ [],.mk 9 true ⟨some 52,none,.call (.c (.fn (.func 47) [])) [.t 49,.t 51]⟩ [⟨some 43,none,.load (some 1) (.t 7)⟩,⟨some 45,none,.load none (.t 44)⟩,⟨some 47,none,.load none (.t 46)⟩],.mk 10 false ⟨some 53,none,.indexAddr 4 (.t 48) (.t 52)⟩ [],.mk 11 false ⟨some 54,none,.fieldAddr 0 (.t 53)⟩ [],.mk 12 false ⟨some 55,none,.load none (.t 54)⟩ [],.mk 13 true ⟨none,none,.store 1 (.t 2) (.t 43)⟩ [⟨some 45,none,.load none (.t 44)⟩,⟨some 47,none,.load none (.t 46)⟩,⟨some 53,none,.indexAddr 4 (.t 48) (.t 52)⟩,⟨some 55,none,.load none (.t 54)⟩],.mk 14 false ⟨some 3,none,.mv (.t 45)⟩ [],.mk 15 false ⟨some 4,none,.mv (.t 47)⟩ [],.mk 16 false ⟨some 5,none,.mv (.t 55)⟩ []]) .ret) .skip)) (.seq (.drawn [.mk 0 false ⟨some 56,none,.load (some 1) (.t 7)⟩ [],.mk 1 false ⟨some 57,none,.fieldAddr 0 (.t 8)⟩ [],.mk 2 false ⟨some 58,none,.load none (.t 57)⟩ [],.mk 3 false ⟨some 59,none,.fieldAddr 1 (.t 8)⟩ [],.mk 4 false ⟨some 60,none,.load none (.t 59)⟩ [],.mk 5 true ⟨none,none,.store 1 (.t 2) (.t 56)⟩ [⟨some 58,none,.load none (.t 57)⟩,⟨some 60,none,.load none (.t 59)⟩],.mk 6 false ⟨some 3,none,.mv (.t 58)⟩ [],.mk 7 false ⟨some 4,none,.mv (.t 60)⟩ [],.mk 8 false ⟨some 5,none,.mv (.c (.t (.str [110,111,110,101])))⟩ []]) .ret)))) .skip)) (.seq (.ops [⟨some 61,none,.load (some 1) (.t 7)⟩,⟨none,none,.store 1 (.t 2) (.t 61)⟩,⟨some 3,none,.mv (.c (.t (.str [116,101,97,109])))⟩,⟨some 4,none,.mv (.c (.t (.str [103,111,110,101])))⟩,⟨some 5,none,.mv (.c (.t (.str [114,111,111,109])))⟩]) .ret)))))
theorem k_spec_DrawSheetGet:comp Tryd.prog 62 (Tryd.f16.body.getD .skip)=some c_spec_DrawSheetGet:=by kernel_rfl
set_option maxHeartbeats 8000000 in
theorem spec_DrawSheetGet (c:List UInt8) (σ:Store):ACalls Tryd.prog 16 [.t (.lst 1 (byteT c))] σ fun r s=>GetQ r∧s=σ:=by
 refine acalls_of Tryd.func16 (by decide +kernel) (code:=Tryd.f16.body.getD .skip) (n:=62) (c:=c_spec_DrawSheetGet) (rs:=[(.cell 2 (some 1)),(.tmp 3),(.tmp 4),(.tmp 5)]) rfl rfl k_spec_DrawSheetGet (by kernel_rfl) (by simp) (fun hσ=>?_)
 simp -implicitDefEqProofs only [c_spec_DrawSheetGet,zZ,zA,zB,zC,zD,zE,zG,zH,zI,zJ,zK,if_true,if_false,reduceCtorEq,zW,zX,zY,za,zb]
 refine call_by (by rw [List.append_nil]; exact open_rd c _) ?_
 rintro r σ' ⟨l,hl,rfl,rfl⟩
 simp -implicitDefEqProofs only [zZ,zA,zB,zC,zD,zE,zG,zH,zI,zJ,zK,if_true,if_false,reduceCtorEq,zW,zX,zY,za,zb]
 refine call_draw_at (p:=0) (d_any l hl (σ.length+1)) (by simp) (by omega) ?_
 rintro r q hqa hqb ⟨bs,rfl,h1,h2⟩
 simp -implicitDefEqProofs only [zh,zV,zd,Int.toNat_natCast,zZ,zA,zB,zC,zD,zE,zG,zH,zI,zJ,zK,if_true,if_false,reduceCtorEq,zW,zX,zY,za,zb]
 refine cond_split (fun c0=>?_) (fun c0=>?_)
 rotate_left
 ·simp -implicitDefEqProofs only [zh,zV,zd,Int.toNat_natCast,c0,zZ,zA,zB,zC,zD,zE,zG,zH,zI,zJ,zK,if_true,if_false,reduceCtorEq,zW,zX,zY,za,zb]
  exact ret_same rfl hσ rfl ⟨⟨bs,_,_,_,rfl,⟨h1,h2⟩,by decide,by decide,by decide⟩,rfl⟩
 ·simp -implicitDefEqProofs only [zh,zV,zd,Int.toNat_natCast,c0,zZ,zA,zB,zC,zD,zE,zG,zH,zI,zJ,zK,if_true,if_false,reduceCtorEq,zW,zX,zY,za,zb]
  refine call_draw_at (p:=q) (d_pick l hl (σ.length+1) 8 (by omega) (by omega)) (by simp) (by omega) ?_
  rintro r q2 hq2a hq2b ⟨x,rfl,hx⟩
  simp -implicitDefEqProofs only [zh,zV,zd,Int.toNat_natCast,c0,zZ,zA,zB,zC,zD,zE,zG,zH,zI,zJ,zK,if_true,if_false,reduceCtorEq,zW,zX,zY,za,zb]
  refine cond_split (fun c1=>?_) (fun c1=>?_)
  rotate_left
  ·simp -implicitDefEqProofs only [zh,zV,zd,Int.toNat_natCast,c1,zZ,zA,zB,zC,zD,zE,zG,zH,zI,zJ,zK,if_true,if_false,reduceCtorEq,zW,zX,zY,za,zb]
   exact ret_same rfl hσ rfl ⟨⟨bs,_,_,_,rfl,⟨h1,h2⟩,by decide,by decide,by decide⟩,rfl⟩
  have hb0:1≤bs.length:=by simp at c0; omega
  simp -implicitDefEqProofs only [zh,zV,zd,Int.toNat_natCast,tSheetBlockS,zZ,zA,zB,zC,zD,zE,zG,zH,zI,zJ,zK,if_true,if_false,reduceCtorEq,zW,zX,zY,za,zb]
  refine call_draw_at (p:=q2) (d_pick l hl (σ.length+1) bs.length (by omega) (by omega)) (by simp) (by omega) ?_
  rintro r q3 hq3a hq3b ⟨k,rfl,hk⟩
  obtain ⟨b,hb⟩:∃ b,bs[k]?=some b:=⟨bs[k],List.getElem?_eq_getElem hk⟩
  have hbm:=h2 b (List.mem_of_getElem? hb)
  simp -implicitDefEqProofs only [zh,zV,zd,Int.toNat_natCast,tSheetBlockS,zZ,zA,zB,zC,zD,zE,zG,zH,zI,zJ,zK,if_true,if_false,reduceCtorEq,zW,zX,zY,za,zb]
  refine And.intro (.inr ⟨fun _=>⟨_,_,rfl,rfl,σ.length+3,by simp,rfl,rfl⟩,fun _=>⟨_,_,rfl,rfl,by simp -implicitDefEqProofs only [ev,eqK,onV,evLoad,ldT,ldV,zZ,zA,zB,zC,zD,zE,zG,zH,zI,zJ,zK,if_true,if_false,reduceCtorEq,zW,zX,zY,za,zb]⟩,trivial⟩) ?_
  simp -implicitDefEqProofs only [zh,zV,zd,Int.toNat_natCast,hb,yA,zm,SheetBlock.ts,zZ,zA,zB,zC,zD,zE,zG,zH,zI,zJ,zK,if_true,if_false,reduceCtorEq,zW,zX,zY,za,zb]
  refine call_pure (spec_SheetRules b.Kind _) ?_
  simp -implicitDefEqProofs only [zh,zV,zd,Int.toNat_natCast,tSheetRuleS,zZ,zA,zB,zC,zD,zE,zG,zH,zI,zJ,zK,if_true,if_false,reduceCtorEq,zW,zX,zY,za,zb]
  refine cond_split (fun c2=>?_) (fun c2=>?_)
  rotate_left
  ·simp -implicitDefEqProofs only [zh,zV,zd,Int.toNat_natCast,c2,zZ,zA,zB,zC,zD,zE,zG,zH,zI,zJ,zK,if_true,if_false,reduceCtorEq,zW,zX,zY,za,zb]
   refine And.intro (.inr ⟨fun _=>⟨_,_,rfl,rfl,by simp -implicitDefEqProofs only [ev,eqK,onV,evLoad,ldT,ldV,zZ,zA,zB,zC,zD,zE,zG,zH,zI,zJ,zK,if_true,if_false,reduceCtorEq,zW,zX,zY,za,zb]⟩,fun _=>⟨_,_,rfl,rfl,by simp -implicitDefEqProofs only [ev,eqK,onV,evLoad,ldT,ldV,zZ,zA,zB,zC,zD,zE,zG,zH,zI,zJ,zK,if_true,if_false,reduceCtorEq,zW,zX,zY,za,zb]⟩,trivial⟩) ?_
   exact ret_same rfl hσ rfl ⟨⟨bs,_,_,_,rfl,⟨h1,h2⟩,by have:=hbm.kind; omega,by have:=hbm.name; omega,by decide⟩,rfl⟩
  simp -implicitDefEqProofs only [zh,zV,zd,Int.toNat_natCast,c2,zZ,zA,zB,zC,zD,zE,zG,zH,zI,zJ,zK,if_true,if_false,reduceCtorEq,zW,zX,zY,za,zb]
  refine call_draw_at (p:=q3) (d_pick l hl (σ.length+1) 8 (by omega) (by omega)) (by simp) (by omega) ?_
  rintro r q4 hq4a hq4b ⟨y,rfl,hy⟩
  simp -implicitDefEqProofs only [zh,zV,zd,Int.toNat_natCast,c2,zZ,zA,zB,zC,zD,zE,zG,zH,zI,zJ,zK,if_true,if_false,reduceCtorEq,zW,zX,zY,za,zb]
  refine cond_split (fun c3=>?_) (fun c3=>?_)
  rotate_left
  ·simp -implicitDefEqProofs only [zh,zV,zd,Int.toNat_natCast,c3,zZ,zA,zB,zC,zD,zE,zG,zH,zI,zJ,zK,if_true,if_false,reduceCtorEq,zW,zX,zY,za,zb]
   refine And.intro (.inr ⟨fun _=>⟨_,_,rfl,rfl,by simp -implicitDefEqProofs only [ev,eqK,onV,evLoad,ldT,ldV,zZ,zA,zB,zC,zD,zE,zG,zH,zI,zJ,zK,if_true,if_false,reduceCtorEq,zW,zX,zY,za,zb]⟩,fun _=>⟨_,_,rfl,rfl,by simp -implicitDefEqProofs only [ev,eqK,onV,evLoad,ldT,ldV,zZ,zA,zB,zC,zD,zE,zG,zH,zI,zJ,zK,if_true,if_false,reduceCtorEq,zW,zX,zY,za,zb]⟩,trivial⟩) ?_
   exact ret_same rfl hσ rfl ⟨⟨bs,_,_,_,rfl,⟨h1,h2⟩,by have:=hbm.kind; omega,by have:=hbm.name; omega,by decide⟩,rfl⟩
  have hr0:1≤(rulesR b.Kind).length:=by simp at c2; omega
  simp -implicitDefEqProofs only [zh,zV,zd,Int.toNat_natCast,tSheetRuleS,zZ,zA,zB,zC,zD,zE,zG,zH,zI,zJ,zK,if_true,if_false,reduceCtorEq,zW,zX,zY,za,zb]
  refine call_draw_at (p:=q4) (d_pick l hl (σ.length+1) (rulesR b.Kind).length (by omega) (by have:=(rules_small b.Kind).1; omega)) (by simp) (by omega) ?_
  rintro r q5 hq5a hq5b ⟨j,rfl,hj⟩
  obtain ⟨ru,hru⟩:∃ ru,(rulesR b.Kind)[j]?=some ru:=⟨(rulesR b.Kind)[j],List.getElem?_eq_getElem hj⟩
  have hrk:=(rule_line (List.mem_of_getElem? hru)).1
  simp -implicitDefEqProofs only [zh,zV,zd,Int.toNat_natCast,zZ,zA,zB,zC,zD,zE,zG,zH,zI,zJ,zK,if_true,if_false,reduceCtorEq,zW,zX,zY,za,zb]
  refine And.intro (.inr ⟨fun _=>⟨_,_,rfl,rfl,by simp -implicitDefEqProofs only [ev,eqK,onV,evLoad,ldT,ldV,zZ,zA,zB,zC,zD,zE,zG,zH,zI,zJ,zK,if_true,if_false,reduceCtorEq,zW,zX,zY,za,zb]⟩,fun _=>⟨_,_,rfl,rfl,by simp -implicitDefEqProofs only [ev,eqK,onV,evLoad,ldT,ldV,zZ,zA,zB,zC,zD,zE,zG,zH,zI,zJ,zK,if_true,if_false,reduceCtorEq,zW,zX,zY,za,zb]⟩,fun _=>⟨_,_,rfl,rfl,by simp -implicitDefEqProofs only [ev,eqK,onV,evLoad,ldT,ldV,zZ,zA,zB,zC,zD,zE,zG,zH,zI,zJ,zK,if_true,if_false,reduceCtorEq,zW,zX,zY,za,zb]⟩,trivial⟩) ?_
  simp -implicitDefEqProofs only [zh,zV,zd,Int.toNat_natCast,hru,yA,zm,SheetRule.ts,zZ,zA,zB,zC,zD,zE,zG,zH,zI,zJ,zK,if_true,if_false,reduceCtorEq,zW,zX,zY,za,zb]
  refine And.intro (.inr ⟨fun _=>⟨_,_,rfl,rfl,by simp -implicitDefEqProofs only [ev,eqK,onV,evLoad,ldT,ldV,evIndexAddr,onRow,toTs,hru,yA,zm,SheetRule.ts,zV,zd,zZ,zA,zB,zC,zD,zE,zG,zH,zI,zJ,zK,if_true,if_false,reduceCtorEq,zW,zX,zY,za,zb]⟩,fun _=>⟨_,_,rfl,rfl,by simp -implicitDefEqProofs only [ev,eqK,onV,evLoad,ldT,ldV,evIndexAddr,onRow,toTs,hru,yA,zm,SheetRule.ts,zV,zd,zZ,zA,zB,zC,zD,zE,zG,zH,zI,zJ,zK,if_true,if_false,reduceCtorEq,zW,zX,zY,za,zb]⟩,fun _=>⟨_,_,rfl,rfl,by simp -implicitDefEqProofs only [ev,eqK,onV,evLoad,ldT,ldV,evIndexAddr,onRow,toTs,hru,yA,zm,SheetRule.ts,zV,zd,zZ,zA,zB,zC,zD,zE,zG,zH,zI,zJ,zK,if_true,if_false,reduceCtorEq,zW,zX,zY,za,zb]⟩,fun _=>⟨_,_,rfl,rfl,by simp -implicitDefEqProofs only [ev,eqK,onV,evLoad,ldT,ldV,evIndexAddr,onRow,toTs,hru,yA,zm,SheetRule.ts,zV,zd,zZ,zA,zB,zC,zD,zE,zG,zH,zI,zJ,zK,if_true,if_false,reduceCtorEq,zW,zX,zY,za,zb]⟩,trivial⟩) ?_
  exact ret_same rfl hσ rfl ⟨⟨bs,_,_,_,rfl,⟨h1,h2⟩,by have:=hbm.kind; omega,by have:=hbm.name; omega,hrk⟩,rfl⟩
end Go.Proofs.YtnnnemgbgilfaaaDoor.W
end
section
open Go Go.Ab
set_option maxHeartbeats 2000000
namespace Go.Proofs.YtnnnemgbgilfaaaDoor.W
theorem ne_self' (n:Int):(n != n)=false:=by simp
theorem bs_ne (s:List UInt8):(s != s)=false:=by simp
def c_laws_wtWords:C:=(.seq (.ops [⟨some 4,none,.mv (.c (.t (.bool false)))⟩]) (.seq (.seq (.ops [⟨some 6,none,.mv (.t 0)⟩,⟨some 7,none,.len false (.t 6)⟩,⟨some 8,none,.mv (.t 1)⟩,⟨some 9,none,.len false (.t 8)⟩,⟨some 10,none,.bin .neq (.t 7) (.t 9)⟩]) (.cond (.t 10) (.seq (.ops [⟨some 4,none,.mv (.c (.t (.bool false)))⟩]) .ret) .skip)) (.seq (.seq (.ops [⟨some 5,none,.mv (.c (.t (.int .i64 0)))⟩]) (.block 0 (.loop (.seq (.seq (.ops [⟨some 11,none,.mv (.t 5)⟩,⟨some 12,none,.mv (.t 0)⟩,⟨some 13,none,.len false (.t 12)⟩,⟨some 14,none,.bin .lss (.t 11) (.t 13)⟩]) (.cond (.t 14) .skip (.exit 0))) (.seq (.block 1 (.seq (.drawn [.mk 0 false ⟨some 17,none,.mv (.t 0)⟩ [],.mk 1 false ⟨some 18,none,.mv (.t 5)⟩ [],.mk 2 false ⟨some 19,none,.indexAddr 1 (.t 17) (.t 18)⟩ [],.mk 3 false ⟨some 20,none,.load none (.t 19)⟩ [],.mk 4 false ⟨some 21,none,.mv (.t 1)⟩ [],.mk 5 false ⟨some 22,none,.mv (.t 5)⟩ [],.mk 6 false ⟨some 23,none,.indexAddr 1 (.t 21) (.t 22)⟩ [],.mk 7 false ⟨some 24,none,.load none (.t 23)⟩ [],.mk 8 false ⟨some 25,none,.bin .neq (.t 20) (.t 24)⟩ []]) (.cond (.t 25) (.seq (.ops [⟨some 4,none,.mv (.c (.t (.bool false)))⟩]) .ret) .skip))) (.ops [⟨some 15,none,.mv (.t 5)⟩,⟨some 16,none,.bin .add (.t 15) (.c (.t (.int .i64 1)))⟩,⟨some 5,none,.mv (.t 16)⟩])))))) (.seq (.ops [⟨some 4,none,.mv (.c (.t (.bool true)))⟩]) .ret))))
theorem k_laws_wtWords:comp Tryd.prog 26 (Tryd.f46.body.getD .skip)=some c_laws_wtWords:=by kernel_rfl
set_option maxHeartbeats 8000000 in
theorem wt_words (l:List (List UInt8)) (hl:l.length≤1048576) (σ:Store):ACalls Tryd.prog 46 [.t (tStrs l),.t (tStrs l)] σ fun r σ'=>r=.t (.bool true)∧σ'=σ:=by
 refine acalls_of Tryd.func46 (by decide +kernel) (code:=Tryd.f46.body.getD .skip) (n:=26) (c:=c_laws_wtWords) (rs:=[(.tmp 4)]) rfl rfl k_laws_wtWords (by kernel_rfl) (by simp) (fun hσ=>?_)
 have fin:∀ {τ:Store},retV σ.length (fun r σ'=>r=.t (.bool true)∧σ'=σ) (σ++τ) (some [.t (.bool true)]):=ret_same rfl hσ rfl ⟨rfl,rfl⟩
 have fin0:retV σ.length (fun r σ'=>r=.t (.bool true)∧σ'=σ) σ (some [.t (.bool true)]):=ret_same0 rfl ⟨rfl,rfl⟩
 simp -implicitDefEqProofs only [c_laws_wtWords,zh,ne_self',cond_f,tStrs,zZ,zA,zB,zC,zD,zE,zG,zH,zI,zJ,zK,if_true,if_false,reduceCtorEq,zW,zX,zY,za,zb]
 refine loop_p [5,0,1] [0,1] (fun k:Nat=>[(5,.t (.int .i64 (k:Nat)))]) (fun k=>k≤l.length) (fun k=>l.length - k) 0 (by simp) (Nat.zero_le _) rfl ?_
 rintro k hk
 simp -implicitDefEqProofs only [keep,zh,tStrs,zZ,zA,zB,zC,zD,zE,zG,zH,zI,zJ,zK,if_true,if_false,reduceCtorEq,zW,zX,zY,za,zb]
 refine cond_split (fun h1=>?_) (fun h1=>?_)
 ·obtain ⟨x,hx,hlt⟩:=at_of h1
  have hxm:=List.mem_of_getElem? hx
  have more:=i64_succ (show k<4611686018427387904 by omega)
  simp -implicitDefEqProofs only [hx,tStr,beq_self_eq_true,Bool.not_true,more,cond_f,bs_ne,zV,zd,zm,yA,zh,zZ,zA,zB,zC,zD,zE,zG,zH,zI,zJ,zK,if_true,if_false,reduceCtorEq,zW,zX,zY,za,zb]
  first | exact lk_p0 (k+1) (by simp) (by simp) (by omega) (by omega) rfl | exact lk_p (k+1) (by simp) (by simp) hσ rfl (by omega) (by omega) rfl rfl | exact lk_pm (k+1) (Nat.le_refl _) (by simp) hσ rfl rfl (by omega) (by omega) (by simp [ltE,keep,eget,V.lt]) rfl
 ·simp -implicitDefEqProofs only [tStrs,zZ,zA,zB,zC,zD,zE,zG,zH,zI,zJ,zK,if_true,if_false,reduceCtorEq,zW,zX,zY,za,zb]
  first | exact fin0 | exact fin
def c_laws_wtLines:C:=(.seq (.ops [⟨some 4,none,.mv (.c (.t (.bool false)))⟩]) (.seq (.seq (.ops [⟨some 6,none,.mv (.t 0)⟩,⟨some 7,none,.len false (.t 6)⟩,⟨some 8,none,.mv (.t 1)⟩,⟨some 9,none,.len false (.t 8)⟩,⟨some 10,none,.bin .neq (.t 7) (.t 9)⟩]) (.cond (.t 10) (.seq (.ops [⟨some 4,none,.mv (.c (.t (.bool false)))⟩]) .ret) .skip)) (.seq (.seq (.ops [⟨some 5,none,.mv (.c (.t (.int .i64 0)))⟩]) (.block 0 (.loop (.seq (.seq (.ops [⟨some 11,none,.mv (.t 5)⟩,⟨some 12,none,.mv (.t 0)⟩,⟨some 13,none,.len false (.t 12)⟩,⟨some 14,none,.bin .lss (.t 11) (.t 13)⟩]) (.cond (.t 14) .skip (.exit 0))) (.seq (.block 1 (.seq (.drawn [.mk 0 false ⟨some 17,none,.mv (.t 0)⟩ [],.mk 1 false ⟨some 18,none,.mv (.t 5)⟩ [],.mk 2 false ⟨some 19,none,.indexAddr 2 (.t 17) (.t 18)⟩ [],.mk 3 false ⟨some 20,none,.fieldAddr 0 (.t 19)⟩ [],.mk 4 false ⟨some 21,none,.load none (.t 20)⟩ [],.mk 5 false ⟨some 22,none,.mv (.t 1)⟩ [],.mk 6 false ⟨some 23,none,.mv (.t 5)⟩ [],.mk 7 false ⟨some 24,none,.indexAddr 2 (.t 22) (.t 23)⟩ [],.mk 8 false ⟨some 25,none,.fieldAddr 0 (.t 24)⟩ [],.mk 9 false ⟨some 26,none,.load none (.t 25)⟩ [],.mk 10 false ⟨some 27,none,.bin .neq (.t 21) (.t 26)⟩ [],.mk 11 false ⟨some 28,none,.mv (.t 27)⟩ [],.mk 12 false ⟨some 29,some ⟨28,false⟩,.mv (.t 0)⟩ [],.mk 13 false ⟨some 30,some ⟨28,false⟩,.mv (.t 5)⟩ [],.mk 14 false ⟨some 31,some ⟨28,false⟩,.indexAddr 2 (.t 29) (.t 30)⟩ [],.mk 15 false ⟨some 32,some ⟨28,false⟩,.fieldAddr 1 (.t 31)⟩ [],.mk 16 false ⟨some 33,some ⟨28,false⟩,.load none (.t 32)⟩ [],.mk 17 false ⟨some 34,some ⟨28,false⟩,.mv (.t 1)⟩ [],.mk 18 false ⟨some 35,some ⟨28,false⟩,.mv (.t 5)⟩ [],.mk 19 false ⟨some 36,some ⟨28,false⟩,.indexAddr 2 (.t 34) (.t 35)⟩ [],.mk 20 false ⟨some 37,some ⟨28,false⟩,.fieldAddr 1 (.t 36)⟩ [],.mk 21 false ⟨some 38,some ⟨28,false⟩,.load none (.t 37)⟩ [],.mk 22 false ⟨some 39,some ⟨28,false⟩,.call (.c (.fn (.func 46) [])) [.t 33,.t 38]⟩ [],.mk 23 false ⟨some 40,some ⟨28,false⟩,.un .not (.t 39)⟩ [],.mk 24 false ⟨some 41,none,.pick (.t 28) (.c (.t (.bool true))) (.t 40)⟩ []]) (.cond (.t 41) (.seq (.ops [⟨some 4,none,.mv (.c (.t (.bool false)))⟩]) .ret) .skip))) (.ops [⟨some 15,none,.mv (.t 5)⟩,⟨some 16,none,.bin .add (.t 15) (.c (.t (.int .i64 1)))⟩,⟨some 5,none,.mv (.t 16)⟩])))))) (.seq (.ops [⟨some 4,none,.mv (.c (.t (.bool true)))⟩]) .ret))))
theorem k_laws_wtLines:comp Tryd.prog 42 (Tryd.f15.body.getD .skip)=some c_laws_wtLines:=by kernel_rfl
set_option maxHeartbeats 8000000 in
theorem wt_lines (l:List SheetLine) (hlo:SheetLine.OkS l) (σ:Store):ACalls Tryd.prog 15 [.t (tSheetLineS l),.t (tSheetLineS l)] σ fun r σ'=>r=.t (.bool true)∧σ'=σ:=by
 refine acalls_of Tryd.func15 (by decide +kernel) (code:=Tryd.f15.body.getD .skip) (n:=42) (c:=c_laws_wtLines) (rs:=[(.tmp 4)]) rfl rfl k_laws_wtLines (by kernel_rfl) (by simp) (fun hσ=>?_)
 have fin:∀ {τ:Store},retV σ.length (fun r σ'=>r=.t (.bool true)∧σ'=σ) (σ++τ) (some [.t (.bool true)]):=ret_same rfl hσ rfl ⟨rfl,rfl⟩
 have fin0:retV σ.length (fun r σ'=>r=.t (.bool true)∧σ'=σ) σ (some [.t (.bool true)]):=ret_same0 rfl ⟨rfl,rfl⟩
 simp -implicitDefEqProofs only [c_laws_wtLines,zh,ne_self',cond_f,tSheetLineS,zZ,zA,zB,zC,zD,zE,zG,zH,zI,zJ,zK,if_true,if_false,reduceCtorEq,zW,zX,zY,za,zb]
 refine loop_p [5,0,1] [0,1] (fun k:Nat=>[(5,.t (.int .i64 (k:Nat)))]) (fun k=>k≤l.length) (fun k=>l.length - k) 0 (by simp) (Nat.zero_le _) rfl ?_
 rintro k hk
 simp -implicitDefEqProofs only [keep,zh,tSheetLineS,zZ,zA,zB,zC,zD,zE,zG,zH,zI,zJ,zK,if_true,if_false,reduceCtorEq,zW,zX,zY,za,zb]
 refine cond_split (fun h1=>?_) (fun h1=>?_)
 ·obtain ⟨x,hx,hlt⟩:=at_of h1
  have hxm:=List.mem_of_getElem? hx
  have more:=i64_succ (show k<4611686018427387904 by omega)
  have xok:=hlo.2 x hxm
  simp -implicitDefEqProofs only [hx,SheetLine.ts,beq_self_eq_true,Bool.not_true,more,cond_f,bs_ne,zV,zd,zm,yA,zh,zZ,zA,zB,zC,zD,zE,zG,zH,zI,zJ,zK,if_true,if_false,reduceCtorEq,zW,zX,zY,za,zb]
  refine call_pure (wt_words x.Words xok.Words.1 _) ?_
  simp -implicitDefEqProofs only [Bool.not_true,more,cond_f,cond_t,zV,zd,zm,yA,zh,zZ,zA,zB,zC,zD,zE,zG,zH,zI,zJ,zK,if_true,if_false,reduceCtorEq,zW,zX,zY,za,zb]
  first | exact lk_p0 (k+1) (by simp) (by simp) (by omega) (by omega) rfl | exact lk_p (k+1) (by simp) (by simp) hσ rfl (by omega) (by omega) rfl rfl | exact lk_pm (k+1) (Nat.le_refl _) (by simp) hσ rfl rfl (by omega) (by omega) (by simp [ltE,keep,eget,V.lt]) rfl
 ·simp -implicitDefEqProofs only [tSheetLineS,zZ,zA,zB,zC,zD,zE,zG,zH,zI,zJ,zK,if_true,if_false,reduceCtorEq,zW,zX,zY,za,zb]
  first | exact fin0 | exact fin
def c_laws_wtSheet:C:=(.seq (.ops [⟨some 2,none,.box (.t 0)⟩,⟨some 3,none,.box (.t 1)⟩,⟨some 4,none,.mv (.c (.t (.bool false)))⟩]) (.seq (.seq (.ops [⟨some 6,none,.fieldAddr 0 (.t 2)⟩,⟨some 7,none,.load none (.t 6)⟩,⟨some 8,none,.len false (.t 7)⟩,⟨some 9,none,.fieldAddr 0 (.t 3)⟩,⟨some 10,none,.load none (.t 9)⟩,⟨some 11,none,.len false (.t 10)⟩,⟨some 12,none,.bin .neq (.t 8) (.t 11)⟩]) (.cond (.t 12) (.seq (.ops [⟨some 4,none,.mv (.c (.t (.bool false)))⟩]) .ret) .skip)) (.seq (.seq (.ops [⟨some 5,none,.mv (.c (.t (.int .i64 0)))⟩]) (.block 0 (.loop (.seq (.seq (.ops [⟨some 13,none,.mv (.t 5)⟩,⟨some 14,none,.fieldAddr 0 (.t 2)⟩,⟨some 15,none,.load none (.t 14)⟩,⟨some 16,none,.len false (.t 15)⟩,⟨some 17,none,.bin .lss (.t 13) (.t 16)⟩]) (.cond (.t 17) .skip (.exit 0))) (.seq (.block 1 (.seq (.drawn [.mk 0 false ⟨some 20,none,.fieldAddr 0 (.t 2)⟩ [],.mk 1 false ⟨some 21,none,.load none (.t 20)⟩ [],.mk 2 false ⟨some 22,none,.mv (.t 5)⟩ [],.mk 3 false ⟨some 23,none,.indexAddr 3 (.t 21) (.t 22)⟩ [],.mk 4 false ⟨some 24,none,.fieldAddr 0 (.t 23)⟩ [],.mk 5 false ⟨some 25,none,.load none (.t 24)⟩ [],.mk 6 false ⟨some 26,none,.fieldAddr 0 (.t 3)⟩ [],.mk 7 false ⟨some 27,none,.load none (.t 26)⟩ [],.mk 8 false ⟨some 28,none,.mv (.t 5)⟩ [],.mk 9 false ⟨some 29,none,.indexAddr 3 (.t 27) (.t 28)⟩ [],.mk 10 false ⟨some 30,none,.fieldAddr 0 (.t 29)⟩ [],.mk 11 false ⟨some 31,none,.load none (.t 30)⟩ [],.mk 12 false ⟨some 32,none,.bin .neq (.t 25) (.t 31)⟩ [],.mk 13 false ⟨some 33,none,.mv (.t 32)⟩ [],.mk 14 false ⟨some 34,some ⟨33,false⟩,.fieldAddr 0 (.t 2)⟩ [],.mk 15 false ⟨some 35,some ⟨33,false⟩,.load none (.t 34)⟩ [],.mk 16 false ⟨some 36,some ⟨33,false⟩,.mv (.t 5)⟩ [],.mk 17 false ⟨some 37,some ⟨33,false⟩,.indexAddr 3 (.t 35) (.t 36)⟩ [],.mk 18 false ⟨some 38,some ⟨33,false⟩,.fieldAddr 1 (.t 37)⟩ [],.mk 19 false ⟨some 39,some ⟨33,false⟩,.load none (.t 38)⟩ [],.mk 20 false ⟨some 40,some ⟨33,false⟩,.fieldAddr 0 (.t 3)⟩ [],.mk 21 false ⟨some 41,some ⟨33,false⟩,.load none (.t 40)⟩ [],.mk 22 false ⟨some 42,some ⟨33,false⟩,.mv (.t 5)⟩ [],.mk 23 false ⟨some 43,some ⟨33,false⟩,.indexAddr 3 (.t 41) (.t 42)⟩ [],.mk 24 false ⟨some 44,some ⟨33,false⟩,.fieldAddr 1 (.t 43)⟩ [],.mk 25 false ⟨some 45,some ⟨33,false⟩,.load none (.t 44)⟩ [],.mk 26 false ⟨some 46,some ⟨33,false⟩,.bin .neq (.t 39) (.t 45)⟩ [],.mk 27 false ⟨some 47,none,.pick (.t 33) (.c (.t (.bool true))) (.t 46)⟩ [],.mk 28 false ⟨some 48,none,.mv (.t 47)⟩ [],.mk 29 false ⟨some 49,some ⟨48,false⟩,.fieldAddr 0 (.t 2)⟩ [],.mk 30 false ⟨some 50,some ⟨48,false⟩,.load none (.t 49)⟩ [],.mk 31 false ⟨some 51,some ⟨48,false⟩,.mv (.t 5)⟩ [],.mk 32 false ⟨some 52,some ⟨48,false⟩,.indexAddr 3 (.t 50) (.t 51)⟩ [],.mk 33 false ⟨some 53,some ⟨48,false⟩,.fieldAddr 2 (.t 52)⟩ [],.mk 34 false ⟨some 54,some ⟨48,false⟩,.load none (.t 53)⟩ [],.mk 35 false ⟨some 55,some ⟨48,false⟩,.fieldAddr 0 (.t 3)⟩ [],.mk 36 false ⟨some 56,some ⟨48,false⟩,.load none (.t 55)⟩ [],.mk 37 false ⟨some 57,some ⟨48,false⟩,.mv (.t 5)⟩ [],.mk 38 false ⟨some 58,some ⟨48,false⟩,.indexAddr 3 (.t 56) (.t 57)⟩ [],.mk 39 false ⟨some 59,some ⟨48,false⟩,.fieldAddr 2 (.t 58)⟩ [],.mk 40 false ⟨some 60,some ⟨48,false⟩,.load none (.t 59)⟩ [],.mk 41 false ⟨some 61,some ⟨48,false⟩,.call (.c (.fn (.func 15) [])) [.t 54,.t 60]⟩ [],.mk 42 false ⟨some 62,some ⟨48,false⟩,.un .not (.t 61)⟩ [],.mk 43 false ⟨some 63,none,.pick (.t 48) (.c (.t (.bool true))) (.t 62)⟩ []]) (.cond (.t 63) (.seq (.ops [⟨some 4,none,.mv (.c (.t (.bool false)))⟩]) .ret) .skip))) (.ops [⟨some 18,none,.mv (.t 5)⟩,⟨some 19,none,.bin .add (.t 18) (.c (.t (.int .i64 1)))⟩,⟨some 5,none,.mv (.t 19)⟩])))))) (.seq (.ops [⟨some 4,none,.mv (.c (.t (.bool true)))⟩]) .ret))))
theorem k_laws_wtSheet:comp Tryd.prog 64 (Tryd.f8.body.getD .skip)=some c_laws_wtSheet:=by kernel_rfl
set_option maxHeartbeats 8000000 in
theorem wt_sheet (l:List SheetBlock) (hlo:SheetBlock.OkS l) (σ:Store):ACalls Tryd.prog 8 [.agg [.t (tSheetBlockS l)],.agg [.t (tSheetBlockS l)]] σ fun r σ'=>r=.t (.bool true)∧σ'=σ:=by
 refine acalls_of Tryd.func8 (by decide +kernel) (code:=Tryd.f8.body.getD .skip) (n:=64) (c:=c_laws_wtSheet) (rs:=[(.tmp 4)]) rfl rfl k_laws_wtSheet (by kernel_rfl) (by simp) (fun hσ=>?_)
 have fin:∀ {τ:Store},retV σ.length (fun r σ'=>r=.t (.bool true)∧σ'=σ) (σ++τ) (some [.t (.bool true)]):=ret_same rfl hσ rfl ⟨rfl,rfl⟩
 have fin0:retV σ.length (fun r σ'=>r=.t (.bool true)∧σ'=σ) σ (some [.t (.bool true)]):=ret_same0 rfl ⟨rfl,rfl⟩
 simp -implicitDefEqProofs only [c_laws_wtSheet,zh,ne_self',cond_f,tSheetBlockS,zZ,zA,zB,zC,zD,zE,zG,zH,zI,zJ,zK,if_true,if_false,reduceCtorEq,zW,zX,zY,za,zb]
 refine loop_p [5,2,3] [2,3] (fun k:Nat=>[(5,.t (.int .i64 (k:Nat)))]) (fun k=>k≤l.length) (fun k=>l.length - k) 0 (by simp) (Nat.zero_le _) rfl ?_
 rintro k hk
 simp -implicitDefEqProofs only [keep,zh,tSheetBlockS,zZ,zA,zB,zC,zD,zE,zG,zH,zI,zJ,zK,if_true,if_false,reduceCtorEq,zW,zX,zY,za,zb]
 refine cond_split (fun h1=>?_) (fun h1=>?_)
 ·obtain ⟨x,hx,hlt⟩:=at_of h1
  have hxm:=List.mem_of_getElem? hx
  have more:=i64_succ (show k<4611686018427387904 by omega)
  have xok:=hlo.2 x hxm
  simp -implicitDefEqProofs only [hx,SheetBlock.ts,beq_self_eq_true,Bool.not_true,more,cond_f,bs_ne,zV,zd,zm,yA,zh,zZ,zA,zB,zC,zD,zE,zG,zH,zI,zJ,zK,if_true,if_false,reduceCtorEq,zW,zX,zY,za,zb]
  refine call_pure (wt_lines x.Lines xok.Lines _) ?_
  simp -implicitDefEqProofs only [Bool.not_true,more,cond_f,cond_t,zV,zd,zm,yA,zh,zZ,zA,zB,zC,zD,zE,zG,zH,zI,zJ,zK,if_true,if_false,reduceCtorEq,zW,zX,zY,za,zb]
  first | exact lk_p0 (k+1) (by simp) (by simp) (by omega) (by omega) rfl | exact lk_p (k+1) (by simp) (by simp) hσ rfl (by omega) (by omega) rfl rfl | exact lk_pm (k+1) (Nat.le_refl _) (by simp) hσ rfl rfl (by omega) (by omega) (by simp [ltE,keep,eget,V.lt]) rfl
 ·simp -implicitDefEqProofs only [tSheetBlockS,zZ,zA,zB,zC,zD,zE,zG,zH,zI,zJ,zK,if_true,if_false,reduceCtorEq,zW,zX,zY,za,zb]
  first | exact fin0 | exact fin
theorem fillF (s:Sheet) (hs:s.Ok) (σ:Store):ACalls Tryd.prog 6 [.agg s.vs] σ fun r σ'=>r=.agg ((fillS s).ts.map .t)∧σ'=σ:=acalls_frzTL (impl_SheetFill0 s hs σ)
theorem trimF (s:Sheet) (hs:s.Ok) (σ:Store):ACalls Tryd.prog 7 [.agg s.vs] σ fun r σ'=>r=.agg ((trimS s).ts.map .t)∧σ'=σ:=acalls_frzTL (implO_SheetTrim s hs σ)
theorem getF (s:Sheet) (hs:s.Ok) (kind name key:List UInt8) (σ:Store):ACalls Tryd.prog 14 [.agg s.vs,.t (.str kind),.t (.str name),.t (.str key)] σ fun r σ'=>r=.tup [.t (tSheetLineS (getR s kind name key).1),.t (.bool (getR s kind name key).2)]∧σ'=σ:=frz_pairOf (impl_SheetGet0 s hs kind name key σ)
theorem sm_ok {bs:List SheetBlock} (h1:bs.length≤62) (h2:∀ b∈bs,SmB 12 b):Sheet.Ok ⟨bs⟩:=⟨by simp only; omega,fun b hb=>(h2 b hb).ok (by omega)⟩
theorem fill_ok {bs:List SheetBlock} (h1:bs.length≤62) (h2:∀ b∈bs,SmB 12 b):(fillS ⟨bs⟩).Ok:=by
 unfold fillS
 split
 ·refine ⟨by simp only [zh]; omega,fun b hb=>?_⟩
  obtain ⟨c,hc,rfl⟩:=List.mem_map.1 hb
  exact (fillB_facts ((h2 c hc).ok (by omega)) (by have:=(h2 c hc).n; omega)).1
 ·exact ⟨by simp,by simp⟩
theorem trim_ok {bs:List SheetBlock} (h1:bs.length≤62) (h2:∀ b∈bs,SmB 12 b):(trimS ⟨bs⟩).Ok:=by
 unfold trimS
 split
 ·refine ⟨by simp only [zh]; omega,fun b hb=>?_⟩
  obtain ⟨c,hc,rfl⟩:=List.mem_map.1 hb
  exact trimB_ok ((h2 c hc).ok (by omega))
 ·exact ⟨by simp,by simp⟩
theorem get_ok {s:Sheet} (hs:s.Ok) (kind name key:List UInt8):SheetLine.OkS (getR s kind name key).1:=by
 rcases hv:sheetR s with _ | _
 ·rw [getR_bad (.inl hv)]; exact ⟨by simp,by simp⟩
 rcases hb:s.Blocks.find? (isB kind name) with _ | b
 ·rw [getR_bad (.inr (.inl hb))]; exact ⟨by simp,by simp⟩
 rcases hr:ruleOf kind key with _ | x
 ·rw [getR_bad (.inr (.inr hr))]; exact ⟨by simp,by simp⟩
 rw [getR_good hv hb hr]
 have hbo:=hs.Blocks.2 b (List.mem_of_find?_eq_some hb)
 have hxm:x∈rulesR kind:=List.mem_of_find?_eq_some hr
 show SheetLine.OkS (getL b x)
 unfold getL
 split
 ·exact ⟨by simp,fun y hy=>by rw [List.mem_singleton.1 hy]; exact rule_line hxm⟩
 ·exact ofR_ok hbo.Lines
end Go.Proofs.YtnnnemgbgilfaaaDoor.W
end
