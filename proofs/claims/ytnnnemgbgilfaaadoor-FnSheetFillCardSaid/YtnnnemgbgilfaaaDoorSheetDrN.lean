/- A sheet that is spoilt. Conditions: none. -/
import Derived.Test.YtnnnemgbgilfaaaDoorSheetDrM
set_option linter.unusedSimpArgs false
set_option linter.unusedVariables false
set_option linter.defProp false
open Go.Ab renaming ds_get → zM, ds_get0 → zN, ds_id → zQ, ds_id0 → zR, ds_ids → zS, ds_ids0 → zT, ds_len → zL, ds_set → zO, ds_set0 → zP, eget → zC, env0 → zD, isNilP → zI, isNilS → zJ, lenSl → zH, lenStr → zG, nat_nn → zV, opv → zA, opvs → zB, putAt → zK, q_rows_r → zU, setD → zE
open List renaming drop_succ_cons → zz, getElem?_cons_succ → zo, getElem?_cons_zero → zn, getElem?_set → zy, length_append → zt, length_cons → zj, length_map → zh, length_nil → zk, length_set → zl, map_cons → zu, map_nil → zx, nil_append → zr, set_cons_succ → zq, set_cons_zero → zp, take_succ_cons → z0
open Nat renaming add_left_cancel_iff → zg, reduceAdd → zb, reduceEqDiff → zX, reduceLT → zf, reduceLeDiff → zW, reduceMul → za, reduceSub → zY, zero_add → ze, zero_le → zd
open Option renaming map_some → yA
open Go Go.Ab
set_option maxHeartbeats 2000000
namespace Go.Proofs.YtnnnemgbgilfaaaDoor.W
def c_spec_l39Spoil:C:=(.seq (.ops [⟨some 3,none,.box (.t 1)⟩,⟨some 4,none,.new [.nils]⟩]) (.seq (.ops [⟨some 13,none,.load (some 1) (.t 3)⟩,⟨some 14,none,.call (.c (.fn (.func 32) [])) [.t 13]⟩,⟨some 5,none,.new [.nils]⟩,⟨none,none,.store 1 (.t 5) (.t 14)⟩]) (.seq (.ops [⟨some 15,none,.mv (.t 0)⟩,⟨some 16,none,.fieldAddr 0 (.t 5)⟩,⟨some 17,none,.load none (.t 16)⟩,⟨some 18,none,.len false (.t 17)⟩,⟨some 19,none,.call (.c (.fn (.func 47) [])) [.t 15,.t 18]⟩,⟨some 6,none,.mv (.t 19)⟩]) (.seq (.seq (.ops [⟨some 20,none,.fieldAddr 0 (.t 5)⟩,⟨some 21,none,.load none (.t 20)⟩,⟨some 22,none,.len false (.t 21)⟩,⟨some 23,none,.bin .eql (.t 22) (.c (.t (.int .i64 0)))⟩]) (.cond (.t 23) (.seq (.ops [⟨some 24,none,.build [.t (.str []),.t (.str []),.nils] []⟩,⟨some 25,none,.lit none 3 1 [.t (.str []),.t (.str []),.nils] [⟨0,.t 24⟩]⟩,⟨some 26,none,.build [.nils] [⟨0,⟨1,.t 25⟩⟩]⟩,⟨none,none,.store 1 (.t 4) (.t 26)⟩]) .ret) .skip)) (.seq (.ops [⟨some 27,none,.fieldAddr 0 (.t 5)⟩,⟨some 28,none,.load none (.t 27)⟩,⟨some 29,none,.mv (.t 6)⟩,⟨some 30,none,.indexAddr 3 (.t 28) (.t 29)⟩,⟨some 31,none,.load (some 3) (.t 30)⟩,⟨some 7,none,.new [.t (.str []),.t (.str []),.nils]⟩,⟨none,none,.store 3 (.t 7) (.t 31)⟩]) (.seq (.ops [⟨some 32,none,.mv (.t 0)⟩,⟨some 33,none,.fieldAddr 2 (.t 7)⟩,⟨some 34,none,.load none (.t 33)⟩,⟨some 35,none,.len false (.t 34)⟩,⟨some 36,none,.call (.c (.fn (.func 47) [])) [.t 32,.t 35]⟩,⟨some 8,none,.mv (.t 36)⟩]) (.seq (.seq (.ops [⟨some 37,none,.mv (.t 0)⟩,⟨some 38,none,.call (.c (.fn (.func 47) [])) [.t 37,.c (.t (.int .i64 9))]⟩]) (.block 0 (.seq (.ops [⟨some 66,none,.bin .eql (.t 38) (.c (.t (.int .i64 0)))⟩,⟨some 65,none,.mv (.t 66)⟩]) (.cond (.t 65) (.ops [⟨some 67,none,.lit none 1 3 [.t (.str [])] [⟨0,.c (.t (.str []))⟩,⟨1,.c (.t (.str [110,111,110,101]))⟩,⟨2,.c (.t (.str [116,101,97,109]))⟩]⟩,⟨some 68,none,.mv (.t 0)⟩,⟨some 69,none,.call (.c (.fn (.func 47) [])) [.t 68,.c (.t (.int .i64 3))]⟩,⟨some 70,none,.indexAddr 1 (.t 67) (.t 69)⟩,⟨some 71,none,.load none (.t 70)⟩,⟨some 72,none,.fieldAddr 0 (.t 7)⟩,⟨none,none,.store 1 (.t 72) (.t 71)⟩]) (.seq (.ops [⟨some 74,none,.bin .eql (.t 38) (.c (.t (.int .i64 1)))⟩,⟨some 73,none,.mv (.t 74)⟩]) (.cond (.t 73) (.ops [⟨some 75,none,.lit none 1 3 [.t (.str [])] [⟨0,.c (.t (.str []))⟩,⟨1,.c (.t (.str [65]))⟩,⟨2,.c (.t (.str [122,122]))⟩]⟩,⟨some 76,none,.mv (.t 0)⟩,⟨some 77,none,.call (.c (.fn (.func 47) [])) [.t 76,.c (.t (.int .i64 3))]⟩,⟨some 78,none,.indexAddr 1 (.t 75) (.t 77)⟩,⟨some 79,none,.load none (.t 78)⟩,⟨some 80,none,.fieldAddr 1 (.t 7)⟩,⟨none,none,.store 1 (.t 80) (.t 79)⟩]) (.seq (.ops [⟨some 82,none,.bin .eql (.t 38) (.c (.t (.int .i64 2)))⟩,⟨some 81,none,.mv (.t 82)⟩]) (.cond (.t 81) (.ops [⟨some 83,none,.fieldAddr 0 (.t 5)⟩,⟨some 84,none,.load none (.t 83)⟩,⟨some 85,none,.load (some 3) (.t 7)⟩,⟨some 86,none,.lit none 3 1 [.t (.str []),.t (.str []),.nils] [⟨0,.t 85⟩]⟩,⟨some 87,none,.append 3 56 (.t 84) (.t 86)⟩,⟨some 88,none,.fieldAddr 0 (.t 5)⟩,⟨none,none,.store 1 (.t 88) (.t 87)⟩]) (.seq (.ops [⟨some 90,none,.bin .eql (.t 38) (.c (.t (.int .i64 3)))⟩,⟨some 89,none,.mv (.t 90)⟩]) (.cond (.t 89) (.seq (.ops [⟨some 91,none,.fieldAddr 2 (.t 7)⟩,⟨some 92,none,.load none (.t 91)⟩,⟨some 93,none,.len false (.t 92)⟩,⟨some 94,none,.bin .gtr (.t 93) (.c (.t (.int .i64 0)))⟩]) (.cond (.t 94) (.drawn [.mk 0 false ⟨some 95,none,.fieldAddr 2 (.t 7)⟩ [],.mk 1 false ⟨some 96,none,.load none (.t 95)⟩ [],.mk 2 false ⟨some 97,none,.mv (.t 8)⟩ [],.mk 3 false ⟨some 98,none,.lit (some false) 1 3 [.t (.str [])] [⟨0,.c (.t (.str []))⟩,⟨1,.c (.t (.str [105,109,97,103,101]))⟩,⟨2,.c (.t (.str [122,111,110,101]))⟩]⟩ [],.mk 4 false ⟨some 99,none,.mv (.t 0)⟩ [],.mk 5 true ⟨some 100,none,.call (.c (.fn (.func 47) [])) [.t 99,.c (.t (.int .i64 3))]⟩ [⟨some 96,none,.load none (.t 95)⟩],.mk 6 false ⟨some 101,none,.indexAddr 1 (.t 98) (.t 100)⟩ [],.mk 7 false ⟨some 102,none,.load none (.t 101)⟩ [],.mk 8 false ⟨some 103,none,.indexAddr 2 (.t 96) (.t 97)⟩ [],.mk 9 false ⟨some 104,none,.fieldAddr 0 (.t 103)⟩ [],.mk 10 false ⟨none,none,.store 1 (.t 104) (.t 102)⟩ []]) .skip)) (.seq (.ops [⟨some 106,none,.bin .eql (.t 38) (.c (.t (.int .i64 4)))⟩,⟨some 105,none,.mv (.t 106)⟩]) (.cond (.t 105) (.seq (.ops [⟨some 107,none,.fieldAddr 2 (.t 7)⟩,⟨some 108,none,.load none (.t 107)⟩,⟨some 109,none,.len false (.t 108)⟩,⟨some 110,none,.bin .gtr (.t 109) (.c (.t (.int .i64 0)))⟩,⟨some 111,none,.mv (.t 110)⟩,⟨some 112,some ⟨111,true⟩,.fieldAddr 2 (.t 7)⟩,⟨some 113,some ⟨111,true⟩,.load none (.t 112)⟩,⟨some 114,some ⟨111,true⟩,.mv (.t 8)⟩,⟨some 115,some ⟨111,true⟩,.indexAddr 2 (.t 113) (.t 114)⟩,⟨some 116,some ⟨111,true⟩,.fieldAddr 1 (.t 115)⟩,⟨some 117,some ⟨111,true⟩,.load none (.t 116)⟩,⟨some 118,some ⟨111,true⟩,.len false (.t 117)⟩,⟨some 119,some ⟨111,true⟩,.bin .gtr (.t 118) (.c (.t (.int .i64 0)))⟩,⟨some 120,none,.pick (.t 111) (.t 119) (.c (.t (.bool false)))⟩]) (.cond (.t 120) (.drawn [.mk 0 false ⟨some 121,none,.fieldAddr 2 (.t 7)⟩ [],.mk 1 false ⟨some 122,none,.load none (.t 121)⟩ [],.mk 2 false ⟨some 123,none,.mv (.t 8)⟩ [],.mk 3 false ⟨some 124,none,.indexAddr 2 (.t 122) (.t 123)⟩ [],.mk 4 false ⟨some 125,none,.fieldAddr 1 (.t 124)⟩ [],.mk 5 false ⟨some 126,none,.load none (.t 125)⟩ [],.mk 6 false ⟨some 127,none,.mv (.t 0)⟩ [],.mk 7 true ⟨some 128,none,.call (.c (.fn (.func 85) [])) [.t 127]⟩ [⟨some 122,none,.load none (.t 121)⟩,⟨some 124,none,.indexAddr 2 (.t 122) (.t 123)⟩,⟨some 126,none,.load none (.t 125)⟩],.mk 8 false ⟨some 129,none,.indexAddr 1 (.t 126) (.c (.t (.int .i64 0)))⟩ [],.mk 9 false ⟨none,none,.store 1 (.t 129) (.t 128)⟩ []]) .skip)) (.seq (.ops [⟨some 131,none,.bin .eql (.t 38) (.c (.t (.int .i64 5)))⟩,⟨some 130,none,.mv (.t 131)⟩]) (.cond (.t 130) (.seq (.ops [⟨some 132,none,.fieldAddr 2 (.t 7)⟩,⟨some 133,none,.load none (.t 132)⟩,⟨some 134,none,.len false (.t 133)⟩,⟨some 135,none,.bin .gtr (.t 134) (.c (.t (.int .i64 0)))⟩]) (.cond (.t 135) (.drawn [.mk 0 false ⟨some 136,none,.fieldAddr 2 (.t 7)⟩ [],.mk 1 false ⟨some 137,none,.load none (.t 136)⟩ [],.mk 2 false ⟨some 138,none,.fieldAddr 2 (.t 7)⟩ [],.mk 3 false ⟨some 139,none,.load none (.t 138)⟩ [],.mk 4 false ⟨some 140,none,.mv (.t 8)⟩ [],.mk 5 false ⟨some 141,none,.indexAddr 2 (.t 139) (.t 140)⟩ [],.mk 6 false ⟨some 142,none,.load (some 2) (.t 141)⟩ [],.mk 7 false ⟨some 143,none,.lit (some false) 2 1 [.t (.str []),.nils] [⟨0,.t 142⟩]⟩ [],.mk 8 false ⟨some 144,none,.append 2 40 (.t 137) (.t 143)⟩ [],.mk 9 false ⟨some 145,none,.fieldAddr 2 (.t 7)⟩ [],.mk 10 false ⟨none,none,.store 1 (.t 145) (.t 144)⟩ []]) .skip)) (.seq (.ops [⟨some 147,none,.bin .eql (.t 38) (.c (.t (.int .i64 6)))⟩,⟨some 146,none,.mv (.t 147)⟩]) (.cond (.t 146) (.seq (.ops [⟨some 148,none,.fieldAddr 2 (.t 7)⟩,⟨some 149,none,.load none (.t 148)⟩,⟨some 150,none,.len false (.t 149)⟩,⟨some 151,none,.bin .gtr (.t 150) (.c (.t (.int .i64 1)))⟩]) (.cond (.t 151) (.seq (.ops [⟨some 152,none,.fieldAddr 2 (.t 7)⟩,⟨some 153,none,.load none (.t 152)⟩,⟨some 154,none,.indexAddr 2 (.t 153) (.c (.t (.int .i64 0)))⟩,⟨some 155,none,.load (some 2) (.t 154)⟩,⟨some 9,none,.new [.t (.str []),.nils]⟩,⟨none,none,.store 2 (.t 9) (.t 155)⟩]) (.seq (.drawn [.mk 0 false ⟨some 156,none,.fieldAddr 2 (.t 7)⟩ [],.mk 1 false ⟨some 157,none,.load none (.t 156)⟩ [],.mk 2 false ⟨some 158,none,.fieldAddr 2 (.t 7)⟩ [],.mk 3 false ⟨some 159,none,.load none (.t 158)⟩ [],.mk 4 false ⟨some 160,none,.indexAddr 2 (.t 159) (.c (.t (.int .i64 1)))⟩ [],.mk 5 false ⟨some 161,none,.load (some 2) (.t 160)⟩ [],.mk 6 false ⟨some 162,none,.indexAddr 2 (.t 157) (.c (.t (.int .i64 0)))⟩ [],.mk 7 false ⟨none,none,.store 2 (.t 162) (.t 161)⟩ []]) (.ops [⟨some 163,none,.fieldAddr 2 (.t 7)⟩,⟨some 164,none,.load none (.t 163)⟩,⟨some 165,none,.load (some 2) (.t 9)⟩,⟨some 166,none,.indexAddr 2 (.t 164) (.c (.t (.int .i64 1)))⟩,⟨none,none,.store 2 (.t 166) (.t 165)⟩]))) .skip)) (.seq (.ops [⟨some 168,none,.bin .eql (.t 38) (.c (.t (.int .i64 7)))⟩,⟨some 167,none,.mv (.t 168)⟩]) (.cond (.t 167) (.seq (.ops [⟨some 169,none,.fieldAddr 1 (.t 7)⟩,⟨some 170,none,.load none (.t 169)⟩,⟨some 171,none,.build [.t (.str []),.t (.str []),.nils] [⟨0,⟨1,.c (.t (.str [98,101,114,116,104]))⟩⟩,⟨1,⟨1,.t 170⟩⟩]⟩,⟨none,none,.store 3 (.t 7) (.t 171)⟩]) (.seq (.ops [⟨some 172,none,.mv (.t 0)⟩,⟨some 173,none,.call (.c (.fn (.func 47) [])) [.t 172,.c (.t (.int .i64 2))]⟩,⟨some 174,none,.bin .add (.c (.t (.int .i64 10))) (.t 173)⟩,⟨some 10,none,.mv (.t 174)⟩]) (.seq (.ops [⟨some 11,none,.mv (.c (.t (.int .i64 0)))⟩]) (.block 3 (.loop (.seq (.seq (.ops [⟨some 175,none,.mv (.t 11)⟩,⟨some 176,none,.mv (.t 10)⟩,⟨some 177,none,.bin .lss (.t 175) (.t 176)⟩]) (.cond (.t 177) .skip (.exit 3))) (.seq (.block 4 (.ops [⟨some 180,none,.fieldAddr 2 (.t 7)⟩,⟨some 181,none,.load none (.t 180)⟩,⟨some 182,none,.mv (.t 11)⟩,⟨some 183,none,.bin .add (.c (.t (.int .i64 97))) (.t 182)⟩,⟨some 184,none,.convInt .u8 (.t 183)⟩,⟨some 185,none,.lit none 1 1 [.t (.int .u8 0)] [⟨0,.t 184⟩]⟩,⟨some 186,none,.bytesStr (.t 185)⟩,⟨some 187,none,.bin .add (.c (.t (.str [109]))) (.t 186)⟩,⟨some 188,none,.lit none 1 1 [.t (.str [])] [⟨0,.t 187⟩]⟩,⟨some 189,none,.build [.t (.str []),.nils] [⟨0,⟨1,.c (.t (.str [109,97,114,107]))⟩⟩,⟨1,⟨1,.t 188⟩⟩]⟩,⟨some 190,none,.lit none 2 1 [.t (.str []),.nils] [⟨0,.t 189⟩]⟩,⟨some 191,none,.append 2 40 (.t 181) (.t 190)⟩,⟨some 192,none,.fieldAddr 2 (.t 7)⟩,⟨none,none,.store 1 (.t 192) (.t 191)⟩])) (.ops [⟨some 178,none,.mv (.t 11)⟩,⟨some 179,none,.bin .add (.t 178) (.c (.t (.int .i64 1)))⟩,⟨some 11,none,.mv (.t 179)⟩])))))))) (.seq (.ops [⟨some 12,none,.mv (.c (.t (.int .i64 0)))⟩]) (.block 1 (.loop (.seq (.seq (.drawn [.mk 0 false ⟨some 39,none,.fieldAddr 0 (.t 5)⟩ [],.mk 1 false ⟨some 40,none,.load none (.t 39)⟩ [],.mk 2 false ⟨some 41,none,.len false (.t 40)⟩ [],.mk 3 false ⟨some 42,none,.mv (.t 0)⟩ [],.mk 4 true ⟨some 43,none,.call (.c (.fn (.func 47) [])) [.t 42,.c (.t (.int .i64 2))]⟩ [⟨some 40,none,.load none (.t 39)⟩],.mk 5 false ⟨some 44,none,.bin .add (.c (.t (.int .i64 60))) (.t 43)⟩ [],.mk 6 false ⟨some 45,none,.bin .lss (.t 41) (.t 44)⟩ []]) (.cond (.t 45) .skip (.exit 1))) (.seq (.block 2 (.ops [⟨some 48,none,.fieldAddr 0 (.t 5)⟩,⟨some 49,none,.load none (.t 48)⟩,⟨some 50,none,.mv (.t 12)⟩,⟨some 51,none,.bin .quo (.t 50) (.c (.t (.int .i64 26)))⟩,⟨some 52,none,.bin .add (.c (.t (.int .i64 97))) (.t 51)⟩,⟨some 53,none,.convInt .u8 (.t 52)⟩,⟨some 54,none,.mv (.t 12)⟩,⟨some 55,none,.bin .rem (.t 54) (.c (.t (.int .i64 26)))⟩,⟨some 56,none,.bin .add (.c (.t (.int .i64 97))) (.t 55)⟩,⟨some 57,none,.convInt .u8 (.t 56)⟩,⟨some 58,none,.lit none 1 2 [.t (.int .u8 0)] [⟨0,.t 53⟩,⟨1,.t 57⟩]⟩,⟨some 59,none,.bytesStr (.t 58)⟩,⟨some 60,none,.bin .add (.c (.t (.str [116]))) (.t 59)⟩,⟨some 61,none,.build [.t (.str []),.t (.str []),.nils] [⟨0,⟨1,.c (.t (.str [116,101,97,109]))⟩⟩,⟨1,⟨1,.t 60⟩⟩]⟩,⟨some 62,none,.lit none 3 1 [.t (.str []),.t (.str []),.nils] [⟨0,.t 61⟩]⟩,⟨some 63,none,.append 3 56 (.t 49) (.t 62)⟩,⟨some 64,none,.fieldAddr 0 (.t 5)⟩,⟨none,none,.store 1 (.t 64) (.t 63)⟩])) (.ops [⟨some 46,none,.mv (.t 12)⟩,⟨some 47,none,.bin .add (.t 46) (.c (.t (.int .i64 1)))⟩,⟨some 12,none,.mv (.t 47)⟩])))))))))))))))))))))))) (.seq (.ops [⟨some 193,none,.fieldAddr 0 (.t 5)⟩,⟨some 194,none,.load none (.t 193)⟩,⟨some 195,none,.mv (.t 6)⟩,⟨some 196,none,.load (some 3) (.t 7)⟩,⟨some 197,none,.indexAddr 3 (.t 194) (.t 195)⟩,⟨none,none,.store 3 (.t 197) (.t 196)⟩]) (.seq (.ops [⟨some 198,none,.load (some 1) (.t 5)⟩,⟨none,none,.store 1 (.t 4) (.t 198)⟩]) .ret)))))))))
theorem k_spec_l39Spoil:comp Tryd.prog 199 (Tryd.f58.body.getD .skip)=some c_spec_l39Spoil:=by kernel_rfl
set_option maxHeartbeats 16000000 in
theorem d_spoil (l:List UInt8) (hl:l.length≤2000) (id:Nat) (bs:List SheetBlock) (hbs:SmS 61 bs):DrawC Tryd.prog 58 [.ptr id 0,.agg [.t (.lst 3 (bs.map SheetBlock.ts))]] l id 200 SheetQ2:=by
 intro A p hid hp
 refine acalls_draw ?_
 refine acalls_of Tryd.func58 (by decide +kernel) (code:=Tryd.f58.body.getD .skip) (n:=199) (c:=c_spec_l39Spoil) (rs:=[(.cell 4 (some 1))]) rfl rfl k_spec_l39Spoil (by kernel_rfl) (by simp) (fun hσ=>?_)
 have bok:=hbs.ok (by omega)
 have blen:=hbs.1
 simp -implicitDefEqProofs only [zL,zM,zN,zO,zP,zQ hid,zR hid,zS hid,zT,zl,zU,yA,zj,zk,ze,zf,true_and,zV,zd,zh,zr,zn,zo,zp,zq,c_spec_l39Spoil,zh,zZ,zA,zB,zC,zD,zE,zG,zH,zI,zJ,zK,if_true,if_false,reduceCtorEq,zW,zX,zY,za,zb]
 refine call_newL (spec_l39CopyO bs bok _) ?_
 intro us s2 is hl1 hkp ho0 hw
 obtain ⟨v,rfl,ho⟩:∃ v,us=[v]∧Own s2 (tSheetBlockS bs) v is:=by
  simp only [OwnL] at ho0
  obtain ⟨u,_,i,j,rfl,rfl,h,rfl,rfl⟩:=ho0
  exact ⟨u,rfl,by simpa using h⟩
 clear ho0
 simp only [zt,zl,zj,zk] at hl1 hw
 have hs2:=kp_split hkp (by simp; omega)
 obtain ⟨τ,hτ⟩:∃ τ,τ=s2.drop (A.set id (.box (rdW l p))++[Ab.Obj.box [.t (.lst 3 (bs.map SheetBlock.ts))],.box [.nils]]).length:=⟨_,rfl⟩
 rw [← hτ,List.append_assoc] at hs2
 subst hs2
 clear hτ hkp
 have hv:=own_lenM ho
 rw [List.length_map] at hv
 have ov:=ho.one
 simp only [zH] at hv
 simp -implicitDefEqProofs only [zL,zM,zN,zO,zP,zQ hid,zR hid,zS hid,zT,zl,zU,yA,zj,zk,ze,zf,true_and,zV,zd,zh,zr,zn,zo,zp,zq,hv,ov,one_cells ov,zZ,zA,zB,zC,zD,zE,zG,zH,zI,zJ,zK,if_true,if_false,reduceCtorEq,zW,zX,zY,za,zb]
 obtain ⟨M,hM⟩:∃ M,M=τ.length+2:=⟨_,rfl⟩
 obtain ⟨Lp,hLp⟩:∃ Lp,Lp=[Ab.Obj.box [.t (.lst 3 (bs.map SheetBlock.ts))],Ab.Obj.box [.nils]]++τ:=⟨_,rfl⟩
 have hLl:Lp.length=M:=by rw [hLp,hM]; simp
 have hL0:Ab.Obj.box [.t (.lst 3 (bs.map SheetBlock.ts))]::Ab.Obj.box [.nils]::(τ++[Ab.Obj.box [v]])=Lp++[Ab.Obj.box [v]]:=by rw [hLp]; simp
 have hp1:Lp[1]?=some (Ab.Obj.box [.nils]):=by rw [hLp]; simp
 rw [← hM,hL0]
 rw [← hLp] at ho hw
 simp only [zt,zl,hLl] at hw
 clear hl1 hL0 hLp hM
 obtain ⟨L0,hL0⟩:∃ L0,L0=Lp++[Ab.Obj.box [v]]:=⟨_,rfl⟩
 have b1:L0[1]?=some (Ab.Obj.box [.nils]):=by rw [hL0,List.getElem?_append_left (List.getElem?_eq_some_iff.1 hp1).1]; exact hp1
 have bM:L0[M]?=some (Ab.Obj.box [v]):=by rw [hL0,List.getElem?_append_right (by omega),hLl]; simp
 have bs1:∀ o,(L0.set 1 o)[1]?=some o:=fun o=>List.getElem?_set_self (List.getElem?_eq_some_iff.1 b1).1
 have bl:L0.length=M+1:=by rw [hL0]; simp [hLl]
 rw [← hL0]
 refine call_draw (d_pickm l hl id bs.length (by omega)) hid (by omega) ?_
 rintro r q1 hq1a hq1b ⟨k,rfl,hk⟩
 have n1M:(M:Nat)=M:=rfl
 simp -implicitDefEqProofs only [zL,zM,zN,zO,zP,zQ hid,zR hid,zS hid,zT,zl,zU,yA,zj,zk,ze,zf,true_and,zV,zd,zh,zr,zn,zo,zp,zq,bM,b1,bl,hv,ov,one_cells ov,zZ,zA,zB,zC,zD,zE,zG,zH,zI,zJ,zK,if_true,if_false,reduceCtorEq,zW,zX,zY,za,zb]
 refine cond_split (fun c0=>?_) (fun c0=>?_)
 ·simp -implicitDefEqProofs only [zL,zM,zN,zO,zP,zQ hid,zR hid,zS hid,zT,zl,zU,yA,zj,zk,ze,zf,true_and,zV,zd,zh,zr,zn,zo,zp,zq,bM,b1,bl,hv,ov,one_cells ov,zZ,zA,zB,zC,zD,zE,zG,zH,zI,zJ,zK,if_true,if_false,reduceCtorEq,zW,zX,zY,za,zb]
  refine lit_rows ?_
  simp -implicitDefEqProofs only [zL,zM,zN,zO,zP,zQ hid,zR hid,zS hid,zT,zl,zU,yA,zj,zk,ze,zf,true_and,zV,zd,zh,zr,zn,zo,zp,zq,bM,b1,bs1,bl,hv,ov,one_cells ov,zZ,zA,zB,zC,zD,zE,zG,zH,zI,zJ,zK,if_true,if_false,reduceCtorEq,zW,zX,zY,za,zb]
  refine fin_draw (v:=.agg ([tSheetBlockS [⟨[],[],[]⟩]].map .t)) (by omega) (by omega) (.inl (.inr ⟨_,_,rfl,rfl,?_⟩)) ⟨[⟨[],[],[]⟩],rfl,by simp,by simp; exact ⟨by simp,by simp,by simp,by simp⟩⟩
  simp only [SeesFL]
  refine ⟨_,_,rfl,?_,rfl⟩
  simp only [tSheetBlockS,SeesF]
  refine .inr ⟨by omega,(fun _ _ _ _ e=>by cases e),_,by simp only [rowsOf]; exact if_pos ⟨trivial,rfl⟩,?_⟩
  simp only [zu,zx,SeesFR,SheetBlock.ts,SeesFL]
  exact ⟨_,_,rfl,⟨_,_,rfl,seesF_t _,_,_,rfl,seesF_t _,_,_,rfl,seesF_nils (by omega),rfl⟩,rfl⟩
 ·have hbl:bs.length≠0:=by
   intro e
   rw [e] at c0
   simp at c0
  have hk2:k<bs.length:=by omega
  obtain ⟨b,hb⟩:∃ b,bs[k]?=some b:=⟨bs[k],List.getElem?_eq_getElem hk2⟩
  have hbm:b∈bs:=List.mem_of_getElem? hb
  have hbsm:=hbs.2 b hbm
  have hsplit:bs.map SheetBlock.ts=(bs.take k).map SheetBlock.ts++b.ts::(bs.drop (k+1)).map SheetBlock.ts:=by
   rw [← List.map_cons,← List.map_append,← drop_of hb,List.take_append_drop]
  simp only [tSheetBlockS,Own] at ho
  obtain ⟨_,⟨e0,_⟩ | ⟨i5,js,rs,rfl,rfl,ho5,hoR⟩⟩:=ho
  ·exact absurd (by simpa using congrArg List.length e0) hbl
  rw [hsplit] at hoR
  obtain ⟨ra,row,rb,ja,ji,jb,hrs,rfl,hra,hoa,hoi,hob⟩:=hoR.split
  obtain ⟨lv,rfl,holv⟩:=own_block hoi
  have hrak:ra.length=k:=by rw [hra,List.length_map,List.length_take]; omega
  have hrsl:rs.length=bs.length:=by
   have h1:=hoa.len
   have h3:=hob.len
   rw [hrs,List.length_append,List.length_cons]
   simp only [zh,List.length_drop] at h1 h3
   omega
  have gk:rs[k]?=some [.t (.str b.Kind),.t (.str b.Name),lv]:=by rw [hrs,List.getElem?_append_right (by omega),hrak]; simp
  have sk:∀ x,rs.set k x=ra++x::rb:=fun x=>by rw [hrs,List.set_append_right _ _ (by omega),hrak]; simp
  have skx:∀ x X,(rs++X).set k x=ra++x::(rb++X):=fun x X=>by rw [List.set_append_left _ _ (by omega),sk]; simp
  obtain ⟨e5,rfl⟩:∃ e5,i5=A.length+e5:=⟨i5 - A.length,by have:=(hw.2 i5 (by simp)).1; omega⟩
  have h5b:=hw.2 (A.length+e5) (by simp)
  rw [ds_get] at ho5
  obtain ⟨es,hes⟩:∃ es:List Nat,∀ i,i∈ji↔∃ e∈es,i=A.length+e:=by
   refine ⟨ji.map (· - A.length),fun i=>⟨fun h=>⟨i - A.length,List.mem_map_of_mem h,?_⟩,?_⟩⟩
   ·have:=(hw.2 i (by simp [h])).1
    omega
   ·rintro ⟨e,he,rfl⟩
    obtain ⟨j,hj,rfl⟩:=List.mem_map.1 he
    have:=(hw.2 j (by simp [hj])).1
    rwa [show A.length+(j - A.length)=j by omega]
  obtain ⟨ch,hch⟩:∃ ch,ch=1::M::(M+1)::e5::es:=⟨_,rfl⟩
  have offab:Off A Lp ch (ja++jb):=by
   intro i hi
   have hi2:=hw.2 i (by simp only [List.mem_append] at hi; simp only [List.mem_cons,List.mem_append]; rcases hi with h | h <;> simp [h])
   refine ⟨i - A.length,by omega,by omega,?_⟩
   have nd:=hw.1
   rw [hch]
   simp only [List.mem_cons,not_or]
   refine ⟨by omega,by omega,by omega,?_,?_⟩
   ·intro e
    have e':i=A.length+e5:=by omega
    subst e'
    simp only [List.nodup_cons,List.mem_append] at nd hi
    exact nd.1 (by rcases hi with h | h <;> simp [h])
   ·intro e
    have hj:i∈ji:=(hes i).2 ⟨_,e,by omega⟩
    have nd2:=(List.nodup_cons.1 nd).2
    rw [List.nodup_append] at nd2
    obtain ⟨_,n2,n3⟩:=nd2
    rw [List.nodup_append] at n2
    rcases List.mem_append.1 hi with h | h
    ·exact n3 i h i (by simp [hj]) rfl
    ·exact n2.2.2 i hj i h rfl
  have hother:∀ r∈ra++rb,∃ b is,SmB 7 b∧OwnL (A.set id (.box (rdW l p))++Lp) b.ts r is∧Off A Lp ch is:=by
   intro r hr
   rcases List.mem_append.1 hr with h | h
   ·exact own_each hoa (fun i hi=>offab i (by simp [hi])) (fun y hy=>hbs.2 y (List.mem_of_mem_take hy)) r h
   ·exact own_each hob (fun i hi=>offab i (by simp [hi])) (fun y hy=>hbs.2 y (List.mem_of_mem_drop hy)) r h
  have a5:L0[e5]?=some (.slc 3 rs):=by rw [hL0,List.getElem?_append_left (by omega)]; exact ho5
  have olv:=holv.one
  have llv:=own_lenM holv
  rw [List.length_map] at llv
  simp only [zH] at llv
  have gnew:∀ o,(L0++[o])[M+1]?=some o:=fun o=>by rw [List.getElem?_append_right (by omega),bl]; simp
  have snew:∀ o o',(L0++[o]).set (M+1) o'=L0++[o']:=fun o o'=>by rw [List.set_append_right _ _ (by omega),bl]; simp
  have hkr:((k:Nat):Int)<(rs.length:Int):=by omega
  simp -implicitDefEqProofs only [zL,zM,zN,zO,zP,zQ hid,zR hid,zS hid,zT,zl,zU,yA,zj,zk,ze,zf,true_and,zV,zd,zh,zr,zn,zo,zp,zq,bM,b1,bl,olv,a5,gk,gnew,snew,hkr,llv,zZ,zA,zB,zC,zD,zE,zG,zH,zI,zJ,zK,if_true,if_false,reduceCtorEq,zW,zX,zY,za,zb]
  obtain ⟨L1,hL1⟩:∃ L1,L1=L0++[Ab.Obj.box [.t (.str b.Kind),.t (.str b.Name),lv]]:=⟨_,rfl⟩
  rw [← hL1]
  have d1:L1[1]?=some (Ab.Obj.box [.nils]):=by rw [hL1,List.getElem?_append_left (by omega)]; exact b1
  have dM:L1[M]?=some (Ab.Obj.box [.sl (A.length+e5) rs.length 0 rs.length]):=by rw [hL1,List.getElem?_append_left (by omega)]; exact bM
  have d5:L1[e5]?=some (.slc 3 rs):=by rw [hL1,List.getElem?_append_left (by omega)]; exact a5
  have d7:L1[M+1]?=some (Ab.Obj.box [.t (.str b.Kind),.t (.str b.Name),lv]):=by rw [hL1]; exact gnew _
  have dl:L1.length=M+2:=by rw [hL1]; simp [bl]
  have hsA:∀ c,SameOff c Lp L1:=fun c=>by
   rw [hL1,hL0]
   exact ((sameOff_refl c Lp).app (Nat.le_refl _)).app (by simp)
  have hLpM:Lp.length=M:=hLl
  clear hL1 hL0 b1 bM bl bs1 gnew snew a5 ho5 hp1
  refine call_draw (d_pickm l hl id b.Lines.length (by have:=hbsm.n; omega)) hid (by omega) ?_
  rintro r q2 hq2a hq2b ⟨n,rfl,hn⟩
  simp -implicitDefEqProofs only [zL,zM,zN,zO,zP,zQ hid,zR hid,zS hid,zT,zl,zU,yA,zj,zk,ze,zf,true_and,zV,zd,zh,zr,zn,zo,zp,zq,dM,d1,d5,d7,dl,olv,llv,zZ,zA,zB,zC,zD,zE,zG,zH,zI,zJ,zK,if_true,if_false,reduceCtorEq,zW,zX,zY,za,zb]
  refine call_draw (d_pick l hl id 9 (by omega) (by omega)) hid (by omega) ?_
  rintro r q3 hq3a hq3b ⟨w,rfl,hw9⟩
  simp -implicitDefEqProofs only [zL,zM,zN,zO,zP,zQ hid,zR hid,zS hid,zT,zl,zU,yA,zj,zk,ze,zf,true_and,zV,zd,zh,zr,zn,zo,zp,zq,dM,d1,d5,d7,dl,olv,llv,zZ,zA,zB,zC,zD,zE,zG,zH,zI,zJ,zK,if_true,if_false,reduceCtorEq,zW,zX,zY,za,zb]
  have e5M:e5<M:=by omega
  have e52:2≤e5:=by omega
  have z1:(M+1=1)=False:=eq_false (by omega)
  have z2:(M+1=M)=False:=eq_false (by omega)
  have z3:(M+1=e5)=False:=eq_false (by omega)
  have z4:(M=M+1)=False:=eq_false (by omega)
  have z5:(M=1)=False:=eq_false (by omega)
  have z6:(M=e5)=False:=eq_false (by omega)
  have z7:(e5=M+1)=False:=eq_false (by omega)
  have z8:(e5=M)=False:=eq_false (by omega)
  have z9:(e5=1)=False:=eq_false (by omega)
  have y1:(1=M+1)=False:=eq_false (by omega)
  have y2:(1=M)=False:=eq_false (by omega)
  have y3:(1=e5)=False:=eq_false (by omega)
  have t1:(M+1<M+2)=True:=eq_true (by omega)
  have t2:(M<M+2)=True:=eq_true (by omega)
  have t3:(1<M+2)=True:=eq_true (by omega)
  have t4:(e5<M+2)=True:=eq_true (by omega)
  have u1:(A.length+(M+1)<A.length+(M+2))=True:=eq_true (by omega)
  have u2:(A.length+M<A.length+(M+2))=True:=eq_true (by omega)
  have u3:(A.length+1<A.length+(M+2))=True:=eq_true (by omega)
  have u4:(A.length+e5<A.length+(M+2))=True:=eq_true (by omega)
  have offi:Off A Lp [1,M,M+1,e5] ji:=fun i hi=>by
   have hi2:=hw.2 i (by simp [hi])
   refine ⟨i - A.length,by omega,by omega,?_⟩
   simp only [List.mem_cons,List.not_mem_nil,not_or,or_false,not_false_iff]
   refine ⟨by omega,by omega,by omega,fun e=>?_⟩
   have e':i=A.length+e5:=by omega
   subst e'
   have nd:=(List.nodup_cons.1 hw.1).1
   exact nd (by simp [hi])
  have hm62:rs.length≤61:=by omega
  refine cond_split (fun k0=>?_) (fun k0=>?_)
  ·simp -implicitDefEqProofs only [zL,zM,zN,zO,zP,zQ hid,zR hid,zS hid,zT,zl,zU,yA,zj,zk,ze,zf,true_and,zV,zd,zh,zr,zn,zo,zp,zq,zZ,zA,zB,zC,zD,zE,zG,zH,zI,zJ,zK,if_true,if_false,reduceCtorEq,zW,zX,zY,za,zb]
   refine lit_rows ?_
   simp -implicitDefEqProofs only [zL,zM,zN,zO,zP,zQ hid,zR hid,zS hid,zT,zl,zU,yA,zj,zk,ze,zf,true_and,zV,zd,zh,zr,zn,zo,zp,zq,zZ,zA,zB,zC,zD,zE,zG,zH,zI,zJ,zK,if_true,if_false,reduceCtorEq,zW,zX,zY,za,zb]
   refine call_draw (d_pick l hl id 3 (by omega) (by omega)) hid (by omega) ?_
   rintro r q4 hq4a hq4b ⟨x1,rfl,hx1⟩
   obtain ⟨kd,hkd,hkl⟩:∃ kd:List UInt8,([[V.t (.str [])],[.t (.str [110,111,110,101])],[.t (.str [116,101,97,109])]]:List (List V))[x1]?=some [.t (.str kd)]∧kd.length≤20:=by
    rcases (by omega:x1=0∨x1=1∨x1=2) with rfl | rfl | rfl <;> exact ⟨_,rfl,by decide⟩
   simp -implicitDefEqProofs only [zL,zM,zN,zO,zP,zQ hid,zR hid,zS hid,zT,zl,zU,yA,zj,zk,ze,zf,true_and,zV,zd,zh,zr,zn,zo,zp,zq,hkd,dM,d1,d5,d7,dl,olv,hkr,gk,z0,List.take_zero,zz,List.drop_zero,zg,zy,zl,z1,z2,z3,z4,z5,z6,z7,z8,z9,y1,y2,y3,t1,t2,t3,t4,u1,u2,u3,u4,if_true,if_false,zZ,zA,zB,zC,zD,zE,zG,zH,zI,zJ,zK,if_true,if_false,reduceCtorEq,zW,zX,zY,za,zb]
   refine fin_spoil (by omega) (by omega) (spoil_fin (ra:=ra) (rb:=rb) (row:=[.t (.str kd),.t (.str b.Name),lv]) (ch:=ch) (L:=Lp) (o:=.box (rdW l p)) ?_ ?_ ?_ ?_ ?_ ?_)
   ·simp only [zg,zy,zl,z1,z2,z3,z4,z5,z6,z7,z8,z9,y1,y2,y3,t1,t2,t3,t4,u1,u2,u3,u4,if_true,if_false,sk,dl,d5]
   ·exact sees_block hkl hbsm.name ⟨b.Lines,(by have:=hbsm.n; omega),hbsm.ls,(off_O holv offi (by repeat' (first | exact hsA _ | exact so3 _ (by first | assumption | simp [hch] | simp) | refine SameOff.set ?_ (by first | assumption | simp [hch] | simp) | refine SameOff.app ?_ (by simp [dl]; omega)))).seesF offi.ge⟩
   ·exact fun r hr=>.inl (hother r hr)
   ·repeat' (first | exact hsA _ | exact so3 _ (by first | assumption | simp [hch] | simp) | refine SameOff.set ?_ (by first | assumption | simp [hch] | simp) | refine SameOff.app ?_ (by simp [dl]; omega))
   ·rw [hrs]; simp only [zt,zj,zk]; omega
   ·omega
  simp -implicitDefEqProofs only [zL,zM,zN,zO,zP,zQ hid,zR hid,zS hid,zT,zl,zU,yA,zj,zk,ze,zf,true_and,zV,zd,zh,zr,zn,zo,zp,zq,zZ,zA,zB,zC,zD,zE,zG,zH,zI,zJ,zK,if_true,if_false,reduceCtorEq,zW,zX,zY,za,zb]
  refine cond_split (fun k1=>?_) (fun k1=>?_)
  ·simp -implicitDefEqProofs only [zL,zM,zN,zO,zP,zQ hid,zR hid,zS hid,zT,zl,zU,yA,zj,zk,ze,zf,true_and,zV,zd,zh,zr,zn,zo,zp,zq,zZ,zA,zB,zC,zD,zE,zG,zH,zI,zJ,zK,if_true,if_false,reduceCtorEq,zW,zX,zY,za,zb]
   refine lit_rows ?_
   simp -implicitDefEqProofs only [zL,zM,zN,zO,zP,zQ hid,zR hid,zS hid,zT,zl,zU,yA,zj,zk,ze,zf,true_and,zV,zd,zh,zr,zn,zo,zp,zq,zZ,zA,zB,zC,zD,zE,zG,zH,zI,zJ,zK,if_true,if_false,reduceCtorEq,zW,zX,zY,za,zb]
   refine call_draw (d_pick l hl id 3 (by omega) (by omega)) hid (by omega) ?_
   rintro r q4 hq4a hq4b ⟨x1,rfl,hx1⟩
   obtain ⟨kd,hkd,hkl⟩:∃ kd:List UInt8,([[V.t (.str [])],[.t (.str [65])],[.t (.str [122,122])]]:List (List V))[x1]?=some [.t (.str kd)]∧kd.length≤20:=by
    rcases (by omega:x1=0∨x1=1∨x1=2) with rfl | rfl | rfl <;> exact ⟨_,rfl,by decide⟩
   simp -implicitDefEqProofs only [zL,zM,zN,zO,zP,zQ hid,zR hid,zS hid,zT,zl,zU,yA,zj,zk,ze,zf,true_and,zV,zd,zh,zr,zn,zo,zp,zq,hkd,dM,d1,d5,d7,dl,olv,hkr,gk,z0,List.take_zero,zz,List.drop_zero,zg,zy,zl,z1,z2,z3,z4,z5,z6,z7,z8,z9,y1,y2,y3,t1,t2,t3,t4,u1,u2,u3,u4,if_true,if_false,zZ,zA,zB,zC,zD,zE,zG,zH,zI,zJ,zK,if_true,if_false,reduceCtorEq,zW,zX,zY,za,zb]
   refine fin_spoil (by omega) (by omega) (spoil_fin (ra:=ra) (rb:=rb) (row:=[.t (.str b.Kind),.t (.str kd),lv]) (ch:=ch) (L:=Lp) (o:=.box (rdW l p)) ?_ ?_ ?_ ?_ ?_ ?_)
   ·simp only [zg,zy,zl,z1,z2,z3,z4,z5,z6,z7,z8,z9,y1,y2,y3,t1,t2,t3,t4,u1,u2,u3,u4,if_true,if_false,sk,dl,d5]
   ·exact sees_block hbsm.kind (by omega) ⟨b.Lines,(by have:=hbsm.n; omega),hbsm.ls,(off_O holv offi (by repeat' (first | exact hsA _ | exact so3 _ (by first | assumption | simp [hch] | simp) | refine SameOff.set ?_ (by first | assumption | simp [hch] | simp) | refine SameOff.app ?_ (by simp [dl]; omega)))).seesF offi.ge⟩
   ·exact fun r hr=>.inl (hother r hr)
   ·repeat' (first | exact hsA _ | exact so3 _ (by first | assumption | simp [hch] | simp) | refine SameOff.set ?_ (by first | assumption | simp [hch] | simp) | refine SameOff.app ?_ (by simp [dl]; omega))
   ·rw [hrs]; simp only [zt,zj,zk]; omega
   ·omega
  simp -implicitDefEqProofs only [zL,zM,zN,zO,zP,zQ hid,zR hid,zS hid,zT,zl,zU,yA,zj,zk,ze,zf,true_and,zV,zd,zh,zr,zn,zo,zp,zq,zZ,zA,zB,zC,zD,zE,zG,zH,zI,zJ,zK,if_true,if_false,reduceCtorEq,zW,zX,zY,za,zb]
  refine cond_split (fun k2=>?_) (fun k2=>?_)
  ·simp -implicitDefEqProofs only [zL,zM,zN,zO,zP,zQ hid,zR hid,zS hid,zT,zl,zU,yA,zj,zk,ze,zf,true_and,zV,zd,zh,zr,zn,zo,zp,zq,zZ,zA,zB,zC,zD,zE,zG,zH,zI,zJ,zK,if_true,if_false,reduceCtorEq,zW,zX,zY,za,zb]
   simp -implicitDefEqProofs only [zL,zM,zN,zO,zP,zQ hid,zR hid,zS hid,zT,zl,zU,yA,zj,zk,ze,zf,true_and,zV,zd,zh,zr,zn,zo,zp,zq,dM,d1,d5,d7,dl,olv,hkr,gk,z0,List.take_zero,zz,List.drop_zero,zg,zy,zl,z1,z2,z3,z4,z5,z6,z7,z8,z9,y1,y2,y3,t1,t2,t3,t4,u1,u2,u3,u4,if_true,if_false,zZ,zA,zB,zC,zD,zE,zG,zH,zI,zJ,zK,if_true,if_false,reduceCtorEq,zW,zX,zY,za,zb]
   refine lit_rows ?_
   have hk1:((k:Nat):Int)<((rs.length+1:Nat):Int):=by omega
   have gkx:∀ X,(rs++X)[k]?=some [.t (.str b.Kind),.t (.str b.Name),lv]:=fun X=>by rw [List.getElem?_append_left (by omega),gk]
   have ap1:(rs.length+1) * 56≤maxBy:=by simp only [maxBy]; omega
   have ap2:rs.length≤9223372036854775806:=by omega
   simp -implicitDefEqProofs only [zL,zM,zN,zO,zP,zQ hid,zR hid,zS hid,zT,zl,zU,yA,zj,zk,ze,zf,true_and,zV,zd,zh,zr,zn,zo,zp,zq,dM,d1,d5,d7,dl,olv,hkr,gk,z0,List.take_zero,zz,List.drop_zero,zg,zy,zl,z1,z2,z3,z4,z5,z6,z7,z8,z9,y1,y2,y3,t1,t2,t3,t4,u1,u2,u3,u4,if_true,if_false,hk1,gkx,ap1,ap2,zZ,zA,zB,zC,zD,zE,zG,zH,zI,zJ,zK,if_true,if_false,reduceCtorEq,zW,zX,zY,za,zb]
   refine fin_spoil (by omega) (by omega) (spoil_fin (ra:=ra) (rb:=rb++[[.t (.str b.Kind),.t (.str b.Name),lv]]) (row:=[.t (.str b.Kind),.t (.str b.Name),lv]) (ch:=ch) (L:=Lp) (o:=.box (rdW l p)) ?_ ?_ ?_ ?_ ?_ ?_)
   ·simp only [zg,zy,zl,z1,z2,z3,z4,z5,z6,z7,z8,z9,y1,y2,y3,t1,t2,t3,t4,u1,u2,u3,u4,if_true,if_false,skx,dl,d5]
   ·exact sees_block hbsm.kind hbsm.name ⟨b.Lines,(by have:=hbsm.n; omega),hbsm.ls,(off_O holv offi (by repeat' (first | exact hsA _ | exact so3 _ (by first | assumption | simp [hch] | simp) | refine SameOff.set ?_ (by first | assumption | simp [hch] | simp) | refine SameOff.app ?_ (by simp [dl]; omega)))).seesF offi.ge⟩
   ·exact fun r hr=>(mem_ext hr).elim (fun h=>.inl (hother r h)) fun h=>.inr (by rw [List.mem_singleton.1 h]; exact sees_block hbsm.kind hbsm.name ⟨b.Lines,(by have:=hbsm.n; omega),hbsm.ls,(off_O holv offi (by repeat' (first | exact hsA _ | exact so3 _ (by first | assumption | simp [hch] | simp) | refine SameOff.set ?_ (by first | assumption | simp [hch] | simp) | refine SameOff.app ?_ (by simp [dl]; omega)))).seesF offi.ge⟩)
   ·repeat' (first | exact hsA _ | exact so3 _ (by first | assumption | simp [hch] | simp) | refine SameOff.set ?_ (by first | assumption | simp [hch] | simp) | refine SameOff.app ?_ (by simp [dl]; omega))
   ·rw [hrs]; simp only [zt,zj,zk]; omega
   ·omega
  have hlines:b.Lines≠[]→∃ e2 rs2 js2,lv=.sl (A.length+e2) rs2.length 0 rs2.length∧Lp[e2]?=some (.slc 2 rs2)∧OwnR (A.set id (.box (rdW l p))++Lp) (b.Lines.map SheetLine.ts) rs2 js2∧ji=(A.length+e2)::js2:=by
   intro hne
   simp only [tSheetLineS,Own] at holv
   obtain ⟨_,⟨e0,_⟩ | ⟨i2,js2,rs2,hji,hlv,ho2,hoR2⟩⟩:=holv
   ·exact absurd (List.map_eq_nil_iff.1 e0) hne
   ·have hi2:=hw.2 i2 (by simp [hji])
    obtain ⟨e2,rfl⟩:∃ e2,i2=A.length+e2:=⟨i2 - A.length,by omega⟩
    rw [ds_get] at ho2
    exact ⟨e2,rs2,js2,hlv,ho2,hoR2,hji⟩
  simp -implicitDefEqProofs only [zL,zM,zN,zO,zP,zQ hid,zR hid,zS hid,zT,zl,zU,yA,zj,zk,ze,zf,true_and,zV,zd,zh,zr,zn,zo,zp,zq,zZ,zA,zB,zC,zD,zE,zG,zH,zI,zJ,zK,if_true,if_false,reduceCtorEq,zW,zX,zY,za,zb]
  refine cond_split (fun k3=>?_) (fun k3=>?_)
  ·simp -implicitDefEqProofs only [zL,zM,zN,zO,zP,zQ hid,zR hid,zS hid,zT,zl,zU,yA,zj,zk,ze,zf,true_and,zV,zd,zh,zr,zn,zo,zp,zq,dM,d1,d5,d7,dl,olv,hkr,gk,z0,List.take_zero,zz,List.drop_zero,zg,zy,zl,z1,z2,z3,z4,z5,z6,z7,z8,z9,y1,y2,y3,t1,t2,t3,t4,u1,u2,u3,u4,if_true,if_false,llv,zZ,zA,zB,zC,zD,zE,zG,zH,zI,zJ,zK,if_true,if_false,reduceCtorEq,zW,zX,zY,za,zb]
   refine cond_split (fun k3cc=>?_) (fun k3cc=>?_)
   rotate_left
   ·simp -implicitDefEqProofs only [zL,zM,zN,zO,zP,zQ hid,zR hid,zS hid,zT,zl,zU,yA,zj,zk,ze,zf,true_and,zV,zd,zh,zr,zn,zo,zp,zq,dM,d1,d5,d7,dl,olv,hkr,gk,z0,List.take_zero,zz,List.drop_zero,zg,zy,zl,z1,z2,z3,z4,z5,z6,z7,z8,z9,y1,y2,y3,t1,t2,t3,t4,u1,u2,u3,u4,if_true,if_false,llv,zZ,zA,zB,zC,zD,zE,zG,zH,zI,zJ,zK,if_true,if_false,reduceCtorEq,zW,zX,zY,za,zb]
    refine fin_spoil (by omega) (by omega) (spoil_fin (ra:=ra) (rb:=rb) (row:=[.t (.str b.Kind),.t (.str b.Name),lv]) (ch:=ch) (L:=Lp) (o:=.box (rdW l p)) ?_ ?_ ?_ ?_ ?_ ?_)
    ·simp only [zg,zy,zl,z1,z2,z3,z4,z5,z6,z7,z8,z9,y1,y2,y3,t1,t2,t3,t4,u1,u2,u3,u4,if_true,if_false,sk,dl,d5]
    ·exact sees_block hbsm.kind hbsm.name ⟨b.Lines,(by have:=hbsm.n; omega),hbsm.ls,(off_O holv offi (by repeat' (first | exact hsA _ | exact so3 _ (by first | assumption | simp [hch] | simp) | refine SameOff.set ?_ (by first | assumption | simp [hch] | simp) | refine SameOff.app ?_ (by simp [dl]; omega)))).seesF offi.ge⟩
    ·exact fun r hr=>.inl (hother r hr)
    ·repeat' (first | exact hsA _ | exact so3 _ (by first | assumption | simp [hch] | simp) | refine SameOff.set ?_ (by first | assumption | simp [hch] | simp) | refine SameOff.app ?_ (by simp [dl]; omega))
    ·rw [hrs]; simp only [zt,zj,zk]; omega
    ·omega
   have hne:b.Lines≠[]:=by intro e; rw [e] at k3cc; simp at k3cc
   have hpos:0<b.Lines.length:=List.length_pos_iff.2 hne
   obtain ⟨e2,rs2,js2,rfl,hp2,hoR2,rfl⟩:=hlines hne
   have hE2:=hw.2 (A.length+e2) (by simp)
   have hn2:n<b.Lines.length:=by omega
   have hlen2:rs2.length=b.Lines.length:=by have:=hoR2.len; simpa using this
   obtain ⟨x,hx⟩:∃ x,b.Lines[n]?=some x:=⟨b.Lines[n],List.getElem?_eq_getElem hn2⟩
   have hxsm:=hbsm.ls x (List.mem_of_getElem? hx)
   have hE5:e2≠e5:=by
    rintro rfl
    exact (List.nodup_cons.1 hw.1).1 (by simp)
   have f1:(e2=M+1)=False:=eq_false (by omega)
   have f2:(e2=M)=False:=eq_false (by omega)
   have f3:(e2=e5)=False:=eq_false hE5
   have f4:(e2=1)=False:=eq_false (by omega)
   have f5:(M+1=e2)=False:=eq_false (by omega)
   have f6:(M=e2)=False:=eq_false (by omega)
   have f7:(e5=e2)=False:=eq_false (fun e=>hE5 e.symm)
   have f8:(1=e2)=False:=eq_false (by omega)
   have f9:(e2<M+2)=True:=eq_true (by omega)
   have g9:(A.length+e2<A.length+(M+2))=True:=eq_true (by omega)
   have d2:L1[e2]?=some (.slc 2 rs2):=by rw [hsA [] e2 (by omega) (by simp)]; exact hp2
   have he2:e2∈ch:=by
    obtain ⟨e,he,h⟩:=(hes (A.length+e2)).1 (by simp)
    rw [hch,show e2=e by omega]
    simp [he]
   have off2:Off A Lp [1,M,M+1,e5,e2] js2:=fun i hi=>by
    obtain ⟨e,rfl,h1,h2⟩:=offi i (by simp [hi])
    refine ⟨e,rfl,h1,?_⟩
    have nd:=(List.nodup_cons.1 hw.1).2
    rw [List.nodup_append] at nd
    have nd2:=nd.2.1
    rw [List.nodup_append] at nd2
    have nd3:=(List.nodup_cons.1 nd2.1).1
    simp only [List.mem_cons,List.not_mem_nil,or_false,not_or] at h2 ⊢
    refine ⟨h2.1,h2.2.1,h2.2.2.1,h2.2.2.2,?_⟩
    rintro rfl
    exact nd3 hi
   have hx2:=own_eachX (A:=A) (L:=Lp) (ch:=[1,M,M+1,e5,e2]) hoR2 off2 hbsm.ls
   have hsplit2:b.Lines.map SheetLine.ts=(b.Lines.take n).map SheetLine.ts++x.ts::(b.Lines.drop (n+1)).map SheetLine.ts:=by
    rw [← List.map_cons,← List.map_append,← drop_of hx,List.take_append_drop]
   rw [hsplit2] at hoR2
   obtain ⟨xa,xrow,xb,ka,ki,kb,hrs2,rfl,hxa,hoxa,hoxi,hoxb⟩:=hoR2.split
   obtain ⟨wv,rfl,howv⟩:=own_line hoxi
   have hxak:xa.length=n:=by rw [hxa,List.length_map,List.length_take]; omega
   have gn:rs2[n]?=some [.t (.str x.Key),wv]:=by rw [hrs2,List.getElem?_append_right (by omega),hxak]; simp
   have offki:Off A Lp [1,M,M+1,e5,e2] ki:=fun i hi=>off2 i (by simp [hi])
   have owv:=howv.one
   have hnr:((n:Nat):Int)<(rs2.length:Int):=by omega
   have hxrow:[.t (.str x.Key),wv]∈rs2:=List.mem_of_getElem? gn
   simp -implicitDefEqProofs only [zL,zM,zN,zO,zP,zQ hid,zR hid,zS hid,zT,zl,zU,yA,zj,zk,ze,zf,true_and,zV,zd,zh,zr,zn,zo,zp,zq,dM,d1,d5,d7,dl,olv,hkr,gk,z0,List.take_zero,zz,List.drop_zero,zg,zy,zl,z1,z2,z3,z4,z5,z6,z7,z8,z9,y1,y2,y3,t1,t2,t3,t4,u1,u2,u3,u4,if_true,if_false,d2,gn,hnr,owv,f1,f2,f3,f4,f5,f6,f7,f8,f9,g9,zZ,zA,zB,zC,zD,zE,zG,zH,zI,zJ,zK,if_true,if_false,reduceCtorEq,zW,zX,zY,za,zb]
   refine call_draw (d_pick l hl id 3 (by omega) (by omega)) hid (by omega) ?_
   rintro r q4 hq4a hq4b ⟨x1,rfl,hx1⟩
   obtain ⟨kd,hkd,hkl⟩:∃ kd:List UInt8,([[V.t (.str [])],[.t (.str [105,109,97,103,101])],[.t (.str [122,111,110,101])]]:List (List V))[x1]?=some [.t (.str kd)]∧kd.length≤20:=by
    rcases (by omega:x1=0∨x1=1∨x1=2) with rfl | rfl | rfl <;> exact ⟨_,rfl,by decide⟩
   simp -implicitDefEqProofs only [zL,zM,zN,zO,zP,zQ hid,zR hid,zS hid,zT,zl,zU,yA,zj,zk,ze,zf,true_and,zV,zd,zh,zr,zn,zo,zp,zq,dM,d1,d5,d7,dl,olv,hkr,gk,z0,List.take_zero,zz,List.drop_zero,zg,zy,zl,z1,z2,z3,z4,z5,z6,z7,z8,z9,y1,y2,y3,t1,t2,t3,t4,u1,u2,u3,u4,if_true,if_false,d2,gn,hnr,owv,f1,f2,f3,f4,f5,f6,f7,f8,f9,g9,zZ,zA,zB,zC,zD,zE,zG,zH,zI,zJ,zK,if_true,if_false,reduceCtorEq,zW,zX,zY,za,zb]
   refine And.intro (.inr ⟨fun _=>⟨_,_,rfl,rfl,by simp -implicitDefEqProofs only [zL,zM,zN,zO,zP,zQ hid,zR hid,zS hid,zT,zl,zU,yA,zj,zk,ze,zf,true_and,zV,zd,zh,zr,zn,zo,zp,zq,ev,eqK,onV,evLoad,ldT,ldV,dM,d1,d5,d7,dl,olv,hkr,gk,z0,List.take_zero,zz,List.drop_zero,zg,zy,zl,z1,z2,z3,z4,z5,z6,z7,z8,z9,y1,y2,y3,t1,t2,t3,t4,u1,u2,u3,u4,if_true,if_false,d2,gn,hnr,owv,f1,f2,f3,f4,f5,f6,f7,f8,f9,g9,zZ,zA,zB,zC,zD,zE,zG,zH,zI,zJ,zK,if_true,if_false,reduceCtorEq,zW,zX,zY,za,zb]⟩,trivial⟩) ?_
   simp -implicitDefEqProofs only [zL,zM,zN,zO,zP,zQ hid,zR hid,zS hid,zT,zl,zU,yA,zj,zk,ze,zf,true_and,zV,zd,zh,zr,zn,zo,zp,zq,hkd,dM,d1,d5,d7,dl,olv,hkr,gk,z0,List.take_zero,zz,List.drop_zero,zg,zy,zl,z1,z2,z3,z4,z5,z6,z7,z8,z9,y1,y2,y3,t1,t2,t3,t4,u1,u2,u3,u4,if_true,if_false,d2,gn,hnr,owv,f1,f2,f3,f4,f5,f6,f7,f8,f9,g9,zZ,zA,zB,zC,zD,zE,zG,zH,zI,zJ,zK,if_true,if_false,reduceCtorEq,zW,zX,zY,za,zb]
   refine fin_spoil (by omega) (by omega) (spoil_fin (ra:=ra) (rb:=rb) (row:=[.t (.str b.Kind),.t (.str b.Name),.sl (A.length+e2) (rs2.length) 0 (rs2.length)]) (ch:=ch) (L:=Lp) (o:=.box (rdW l p)) ?_ ?_ ?_ ?_ ?_ ?_)
   ·simp only [zg,zy,zl,z1,z2,z3,z4,z5,z6,z7,z8,z9,y1,y2,y3,t1,t2,t3,t4,u1,u2,u3,u4,if_true,if_false,sk,dl,d5]
   ·exact sees_block hbsm.kind hbsm.name (seesLs_sl (rs:=rs2.set n [.t (.str kd),wv]) (by omega) (by simp only [zM,zg,zy,zl,z1,z2,z3,z4,z5,z6,z7,z8,z9,y1,y2,y3,t1,t2,t3,t4,u1,u2,u3,u4,if_true,if_false,d2,gn,hnr,owv,f1,f2,f3,f4,f5,f6,f7,f8,f9,g9,dl]) (fun r hr=>(List.mem_or_eq_of_mem_set hr).elim (fun h=>(hx2 _ h).elim fun y h=>h.elim fun is h=>⟨y,h.1,(off_L h.2.1 h.2.2 (by repeat' (first | exact hsA _ | exact so3 _ (by first | assumption | simp [hch] | simp) | refine SameOff.set ?_ (by first | assumption | simp [hch] | simp) | refine SameOff.app ?_ (by simp [dl]; omega)))).seesF h.2.2.ge⟩) fun h=>by rw [h]; exact sees_line ⟨hkl,hxsm.n,hxsm.ws⟩ ((off_O howv offki (by repeat' (first | exact hsA _ | exact so3 _ (by first | assumption | simp [hch] | simp) | refine SameOff.set ?_ (by first | assumption | simp [hch] | simp) | refine SameOff.app ?_ (by simp [dl]; omega)))).seesF offki.ge)) (by simp) (by have:=hbsm.n; omega))
   ·exact fun r hr=>.inl (hother r hr)
   ·repeat' (first | exact hsA _ | exact so3 _ (by first | assumption | simp [hch] | simp) | refine SameOff.set ?_ (by first | assumption | simp [hch] | simp) | refine SameOff.app ?_ (by simp [dl]; omega))
   ·rw [hrs]; simp only [zt,zj,zk]; omega
   ·omega
  simp -implicitDefEqProofs only [zL,zM,zN,zO,zP,zQ hid,zR hid,zS hid,zT,zl,zU,yA,zj,zk,ze,zf,true_and,zV,zd,zh,zr,zn,zo,zp,zq,zZ,zA,zB,zC,zD,zE,zG,zH,zI,zJ,zK,if_true,if_false,reduceCtorEq,zW,zX,zY,za,zb]
  refine cond_split (fun k4=>?_) (fun k4=>?_)
  ·simp -implicitDefEqProofs only [zL,zM,zN,zO,zP,zQ hid,zR hid,zS hid,zT,zl,zU,yA,zj,zk,ze,zf,true_and,zV,zd,zh,zr,zn,zo,zp,zq,dM,d1,d5,d7,dl,olv,hkr,gk,z0,List.take_zero,zz,List.drop_zero,zg,zy,zl,z1,z2,z3,z4,z5,z6,z7,z8,z9,y1,y2,y3,t1,t2,t3,t4,u1,u2,u3,u4,if_true,if_false,llv,zZ,zA,zB,zC,zD,zE,zG,zH,zI,zJ,zK,if_true,if_false,reduceCtorEq,zW,zX,zY,za,zb]
   refine cond_split (fun k4c=>?_) (fun k4c=>?_)
   rotate_left
   ·simp -implicitDefEqProofs only [zL,zM,zN,zO,zP,zQ hid,zR hid,zS hid,zT,zl,zU,yA,zj,zk,ze,zf,true_and,zV,zd,zh,zr,zn,zo,zp,zq,dM,d1,d5,d7,dl,olv,hkr,gk,z0,List.take_zero,zz,List.drop_zero,zg,zy,zl,z1,z2,z3,z4,z5,z6,z7,z8,z9,y1,y2,y3,t1,t2,t3,t4,u1,u2,u3,u4,if_true,if_false,llv,k4c,zZ,zA,zB,zC,zD,zE,zG,zH,zI,zJ,zK,if_true,if_false,reduceCtorEq,zW,zX,zY,za,zb]
    refine fin_spoil (by omega) (by omega) (spoil_fin (ra:=ra) (rb:=rb) (row:=[.t (.str b.Kind),.t (.str b.Name),lv]) (ch:=ch) (L:=Lp) (o:=.box (rdW l p)) ?_ ?_ ?_ ?_ ?_ ?_)
    ·simp only [zg,zy,zl,z1,z2,z3,z4,z5,z6,z7,z8,z9,y1,y2,y3,t1,t2,t3,t4,u1,u2,u3,u4,if_true,if_false,sk,dl,d5]
    ·exact sees_block hbsm.kind hbsm.name ⟨b.Lines,(by have:=hbsm.n; omega),hbsm.ls,(off_O holv offi (by repeat' (first | exact hsA _ | exact so3 _ (by first | assumption | simp [hch] | simp) | refine SameOff.set ?_ (by first | assumption | simp [hch] | simp) | refine SameOff.app ?_ (by simp [dl]; omega)))).seesF offi.ge⟩
    ·exact fun r hr=>.inl (hother r hr)
    ·repeat' (first | exact hsA _ | exact so3 _ (by first | assumption | simp [hch] | simp) | refine SameOff.set ?_ (by first | assumption | simp [hch] | simp) | refine SameOff.app ?_ (by simp [dl]; omega))
    ·rw [hrs]; simp only [zt,zj,zk]; omega
    ·omega
   have hne:b.Lines≠[]:=by intro e; rw [e] at k4c; simp at k4c
   have hpos:0<b.Lines.length:=List.length_pos_iff.2 hne
   obtain ⟨e2,rs2,js2,rfl,hp2,hoR2,rfl⟩:=hlines hne
   have hE2:=hw.2 (A.length+e2) (by simp)
   have hn2:n<b.Lines.length:=by omega
   have hlen2:rs2.length=b.Lines.length:=by have:=hoR2.len; simpa using this
   obtain ⟨x,hx⟩:∃ x,b.Lines[n]?=some x:=⟨b.Lines[n],List.getElem?_eq_getElem hn2⟩
   have hxsm:=hbsm.ls x (List.mem_of_getElem? hx)
   have hE5:e2≠e5:=by
    rintro rfl
    exact (List.nodup_cons.1 hw.1).1 (by simp)
   have f1:(e2=M+1)=False:=eq_false (by omega)
   have f2:(e2=M)=False:=eq_false (by omega)
   have f3:(e2=e5)=False:=eq_false hE5
   have f4:(e2=1)=False:=eq_false (by omega)
   have f5:(M+1=e2)=False:=eq_false (by omega)
   have f6:(M=e2)=False:=eq_false (by omega)
   have f7:(e5=e2)=False:=eq_false (fun e=>hE5 e.symm)
   have f8:(1=e2)=False:=eq_false (by omega)
   have f9:(e2<M+2)=True:=eq_true (by omega)
   have g9:(A.length+e2<A.length+(M+2))=True:=eq_true (by omega)
   have d2:L1[e2]?=some (.slc 2 rs2):=by rw [hsA [] e2 (by omega) (by simp)]; exact hp2
   have he2:e2∈ch:=by
    obtain ⟨e,he,h⟩:=(hes (A.length+e2)).1 (by simp)
    rw [hch,show e2=e by omega]
    simp [he]
   have off2:Off A Lp [1,M,M+1,e5,e2] js2:=fun i hi=>by
    obtain ⟨e,rfl,h1,h2⟩:=offi i (by simp [hi])
    refine ⟨e,rfl,h1,?_⟩
    have nd:=(List.nodup_cons.1 hw.1).2
    rw [List.nodup_append] at nd
    have nd2:=nd.2.1
    rw [List.nodup_append] at nd2
    have nd3:=(List.nodup_cons.1 nd2.1).1
    simp only [List.mem_cons,List.not_mem_nil,or_false,not_or] at h2 ⊢
    refine ⟨h2.1,h2.2.1,h2.2.2.1,h2.2.2.2,?_⟩
    rintro rfl
    exact nd3 hi
   have hx2:=own_eachX (A:=A) (L:=Lp) (ch:=[1,M,M+1,e5,e2]) hoR2 off2 hbsm.ls
   have hsplit2:b.Lines.map SheetLine.ts=(b.Lines.take n).map SheetLine.ts++x.ts::(b.Lines.drop (n+1)).map SheetLine.ts:=by
    rw [← List.map_cons,← List.map_append,← drop_of hx,List.take_append_drop]
   rw [hsplit2] at hoR2
   obtain ⟨xa,xrow,xb,ka,ki,kb,hrs2,rfl,hxa,hoxa,hoxi,hoxb⟩:=hoR2.split
   obtain ⟨wv,rfl,howv⟩:=own_line hoxi
   have hxak:xa.length=n:=by rw [hxa,List.length_map,List.length_take]; omega
   have gn:rs2[n]?=some [.t (.str x.Key),wv]:=by rw [hrs2,List.getElem?_append_right (by omega),hxak]; simp
   have offki:Off A Lp [1,M,M+1,e5,e2] ki:=fun i hi=>off2 i (by simp [hi])
   have owv:=howv.one
   have hnr:((n:Nat):Int)<(rs2.length:Int):=by omega
   have hxrow:[.t (.str x.Key),wv]∈rs2:=List.mem_of_getElem? gn
   have lwv:=own_lenM howv
   rw [List.length_map] at lwv
   simp only [zH] at lwv
   simp -implicitDefEqProofs only [zL,zM,zN,zO,zP,zQ hid,zR hid,zS hid,zT,zl,zU,yA,zj,zk,ze,zf,true_and,zV,zd,zh,zr,zn,zo,zp,zq,dM,d1,d5,d7,dl,olv,hkr,gk,z0,List.take_zero,zz,List.drop_zero,zg,zy,zl,z1,z2,z3,z4,z5,z6,z7,z8,z9,y1,y2,y3,t1,t2,t3,t4,u1,u2,u3,u4,if_true,if_false,d2,gn,hnr,owv,f1,f2,f3,f4,f5,f6,f7,f8,f9,g9,lwv,k4c,zZ,zA,zB,zC,zD,zE,zG,zH,zI,zJ,zK,if_true,if_false,reduceCtorEq,zW,zX,zY,za,zb]
   refine cond_split (fun k4d=>?_) (fun k4d=>?_)
   rotate_left
   ·simp -implicitDefEqProofs only [zL,zM,zN,zO,zP,zQ hid,zR hid,zS hid,zT,zl,zU,yA,zj,zk,ze,zf,true_and,zV,zd,zh,zr,zn,zo,zp,zq,dM,d1,d5,d7,dl,olv,hkr,gk,z0,List.take_zero,zz,List.drop_zero,zg,zy,zl,z1,z2,z3,z4,z5,z6,z7,z8,z9,y1,y2,y3,t1,t2,t3,t4,u1,u2,u3,u4,if_true,if_false,d2,gn,hnr,owv,f1,f2,f3,f4,f5,f6,f7,f8,f9,g9,lwv,zZ,zA,zB,zC,zD,zE,zG,zH,zI,zJ,zK,if_true,if_false,reduceCtorEq,zW,zX,zY,za,zb]
    refine fin_spoil (by omega) (by omega) (spoil_fin (ra:=ra) (rb:=rb) (row:=[.t (.str b.Kind),.t (.str b.Name),.sl (A.length+e2) (rs2.length) 0 (rs2.length)]) (ch:=ch) (L:=Lp) (o:=.box (rdW l p)) ?_ ?_ ?_ ?_ ?_ ?_)
    ·simp only [zg,zy,zl,z1,z2,z3,z4,z5,z6,z7,z8,z9,y1,y2,y3,t1,t2,t3,t4,u1,u2,u3,u4,if_true,if_false,sk,dl,d5]
    ·exact sees_block hbsm.kind hbsm.name ⟨b.Lines,(by have:=hbsm.n; omega),hbsm.ls,(off_O holv offi (by repeat' (first | exact hsA _ | exact so3 _ (by first | assumption | simp [hch] | simp) | refine SameOff.set ?_ (by first | assumption | simp [hch] | simp) | refine SameOff.app ?_ (by simp [dl]; omega)))).seesF offi.ge⟩
    ·exact fun r hr=>.inl (hother r hr)
    ·repeat' (first | exact hsA _ | exact so3 _ (by first | assumption | simp [hch] | simp) | refine SameOff.set ?_ (by first | assumption | simp [hch] | simp) | refine SameOff.app ?_ (by simp [dl]; omega))
    ·rw [hrs]; simp only [zt,zj,zk]; omega
    ·omega
   have hnw:x.Words≠[]:=by intro e; rw [e] at k4d; simp at k4d
   obtain ⟨ew,wr,rfl,hpw,hwr,rfl⟩:∃ ew wr,wv=.sl (A.length+ew) wr.length 0 wr.length∧Lp[ew]?=some (.slc 1 wr)∧wr=(x.Words.map tStr).map (fun r=>r.map .t)∧ki=[A.length+ew]:=by
    simp only [tStrs,Own] at howv
    obtain ⟨_,⟨e0,_⟩ | ⟨i2,js2,wr,hji,hlv,ho2,hoR3⟩⟩:=howv
    ·exact absurd (List.map_eq_nil_iff.1 e0) hnw
    ·have hi2:=hw.2 i2 (by simp [hji])
     obtain ⟨ew,rfl⟩:∃ ew,i2=A.length+ew:=⟨i2 - A.length,by omega⟩
     rw [ds_get] at ho2
     obtain ⟨h1,h2⟩:=own_tstr hoR3
     exact ⟨ew,wr,hlv,ho2,h1,by rw [hji,h2]⟩
   have hEw:=hw.2 (A.length+ew) (by simp)
   have hwl:wr.length=x.Words.length:=by rw [hwr]; simp
   have hwpos:0<wr.length:=by rw [hwl]; exact List.length_pos_iff.2 hnw
   obtain ⟨w0,hw0⟩:∃ w0,wr[0]?=some [.t (.str w0)]:=by
    rw [hwr]
    obtain ⟨y,ys,e⟩:=List.exists_cons_of_ne_nil hnw
    exact ⟨y,by rw [e]; simp [tStr]⟩
   have nd1:=hw.1
   have hEw5:ew≠e5:=by
    rintro rfl
    exact (List.nodup_cons.1 nd1).1 (by simp)
   have nd3:(ka++([A.length+ew]++kb)).Nodup∧A.length+e2∉(ka++([A.length+ew]++kb)):=by
    have nd:=(List.nodup_cons.1 nd1).2
    rw [List.nodup_append] at nd
    have nd2:=nd.2.1
    rw [List.nodup_append] at nd2
    exact ⟨(List.nodup_cons.1 nd2.1).2,(List.nodup_cons.1 nd2.1).1⟩
   have hEw2:ew≠e2:=by
    rintro rfl
    exact nd3.2 (by simp)
   have hew:ew∈ch:=by
    obtain ⟨e,he,h⟩:=(hes (A.length+ew)).1 (by simp)
    rw [hch,show ew=e by omega]
    simp [he]
   have w1:(ew=M+1)=False:=eq_false (by omega)
   have w2:(ew=M)=False:=eq_false (by omega)
   have w3:(ew=e5)=False:=eq_false hEw5
   have w4:(ew=1)=False:=eq_false (by omega)
   have w5:(M+1=ew)=False:=eq_false (by omega)
   have w6:(M=ew)=False:=eq_false (by omega)
   have w7:(e5=ew)=False:=eq_false (fun e=>hEw5 e.symm)
   have w8:(1=ew)=False:=eq_false (by omega)
   have w9:(ew=e2)=False:=eq_false hEw2
   have v1:(e2=ew)=False:=eq_false (fun e=>hEw2 e.symm)
   have v2:(ew<M+2)=True:=eq_true (by omega)
   have v3:(A.length+ew<A.length+(M+2))=True:=eq_true (by omega)
   have dw:L1[ew]?=some (.slc 1 wr):=by rw [hsA [] ew (by omega) (by simp)]; exact hpw
   have hw0i:((0:Nat):Int)<(wr.length:Int):=by omega
   have hw0j:(0:Int)<(wr.length:Int):=by omega
   have offab4:Off A Lp [1,M,M+1,e5,ew] (ka++kb):=fun i hi=>by
    obtain ⟨e,rfl,h1,h2⟩:=off2 i (by simp only [List.mem_append] at hi ⊢; rcases hi with h | h <;> simp [h])
    refine ⟨e,rfl,h1,?_⟩
    simp only [List.mem_cons,List.not_mem_nil,or_false,not_or] at h2 ⊢
    refine ⟨h2.1,h2.2.1,h2.2.2.1,h2.2.2.2.1,?_⟩
    rintro rfl
    have n1:=nd3.1
    rw [List.nodup_append] at n1
    rcases List.mem_append.1 hi with h | h
    ·exact n1.2.2 _ h _ (by simp) rfl
    ·exact (List.nodup_cons.1 n1.2.1).1 h
   simp -implicitDefEqProofs only [zL,zM,zN,zO,zP,zQ hid,zR hid,zS hid,zT,zl,zU,yA,zj,zk,ze,zf,true_and,zV,zd,zh,zr,zn,zo,zp,zq,dM,d1,d5,d7,dl,olv,hkr,gk,z0,List.take_zero,zz,List.drop_zero,zg,zy,zl,z1,z2,z3,z4,z5,z6,z7,z8,z9,y1,y2,y3,t1,t2,t3,t4,u1,u2,u3,u4,if_true,if_false,d2,gn,hnr,owv,f1,f2,f3,f4,f5,f6,f7,f8,f9,g9,lwv,k4c,k4d,w1,w2,w3,w4,w5,w6,w7,w8,w9,v1,v2,v3,dw,hw0,hw0i,hw0j,zZ,zA,zB,zC,zD,zE,zG,zH,zI,zJ,zK,if_true,if_false,reduceCtorEq,zW,zX,zY,za,zb]
   refine call_draw (d_odd l hl id) hid (by omega) ?_
   rintro r q4 hq4a hq4b ⟨od,rfl,hod⟩
   simp -implicitDefEqProofs only [zL,zM,zN,zO,zP,zQ hid,zR hid,zS hid,zT,zl,zU,yA,zj,zk,ze,zf,true_and,zV,zd,zh,zr,zn,zo,zp,zq,dM,d1,d5,d7,dl,olv,hkr,gk,z0,List.take_zero,zz,List.drop_zero,zg,zy,zl,z1,z2,z3,z4,z5,z6,z7,z8,z9,y1,y2,y3,t1,t2,t3,t4,u1,u2,u3,u4,if_true,if_false,d2,gn,hnr,owv,f1,f2,f3,f4,f5,f6,f7,f8,f9,g9,lwv,k4c,k4d,w1,w2,w3,w4,w5,w6,w7,w8,w9,v1,v2,v3,dw,hw0,hw0i,hw0j,zZ,zA,zB,zC,zD,zE,zG,zH,zI,zJ,zK,if_true,if_false,reduceCtorEq,zW,zX,zY,za,zb]
   refine And.intro (.inr ⟨fun _=>⟨_,_,rfl,rfl,by simp -implicitDefEqProofs only [zL,zM,zN,zO,zP,zQ hid,zR hid,zS hid,zT,zl,zU,yA,zj,zk,ze,zf,true_and,zV,zd,zh,zr,zn,zo,zp,zq,ev,eqK,onV,evLoad,ldT,ldV,evIndexAddr,onRow,dM,d1,d5,d7,dl,olv,hkr,gk,z0,List.take_zero,zz,List.drop_zero,zg,zy,zl,z1,z2,z3,z4,z5,z6,z7,z8,z9,y1,y2,y3,t1,t2,t3,t4,u1,u2,u3,u4,if_true,if_false,d2,gn,hnr,owv,f1,f2,f3,f4,f5,f6,f7,f8,f9,g9,lwv,k4c,k4d,w1,w2,w3,w4,w5,w6,w7,w8,w9,v1,v2,v3,dw,hw0,hw0i,hw0j,zZ,zA,zB,zC,zD,zE,zG,zH,zI,zJ,zK,if_true,if_false,reduceCtorEq,zW,zX,zY,za,zb]⟩,fun _=>⟨_,_,rfl,rfl,by simp -implicitDefEqProofs only [zL,zM,zN,zO,zP,zQ hid,zR hid,zS hid,zT,zl,zU,yA,zj,zk,ze,zf,true_and,zV,zd,zh,zr,zn,zo,zp,zq,ev,eqK,onV,evLoad,ldT,ldV,evIndexAddr,onRow,dM,d1,d5,d7,dl,olv,hkr,gk,z0,List.take_zero,zz,List.drop_zero,zg,zy,zl,z1,z2,z3,z4,z5,z6,z7,z8,z9,y1,y2,y3,t1,t2,t3,t4,u1,u2,u3,u4,if_true,if_false,d2,gn,hnr,owv,f1,f2,f3,f4,f5,f6,f7,f8,f9,g9,lwv,k4c,k4d,w1,w2,w3,w4,w5,w6,w7,w8,w9,v1,v2,v3,dw,hw0,hw0i,hw0j,zZ,zA,zB,zC,zD,zE,zG,zH,zI,zJ,zK,if_true,if_false,reduceCtorEq,zW,zX,zY,za,zb]⟩,fun _=>⟨_,_,rfl,rfl,by simp -implicitDefEqProofs only [zL,zM,zN,zO,zP,zQ hid,zR hid,zS hid,zT,zl,zU,yA,zj,zk,ze,zf,true_and,zV,zd,zh,zr,zn,zo,zp,zq,ev,eqK,onV,evLoad,ldT,ldV,evIndexAddr,onRow,dM,d1,d5,d7,dl,olv,hkr,gk,z0,List.take_zero,zz,List.drop_zero,zg,zy,zl,z1,z2,z3,z4,z5,z6,z7,z8,z9,y1,y2,y3,t1,t2,t3,t4,u1,u2,u3,u4,if_true,if_false,d2,gn,hnr,owv,f1,f2,f3,f4,f5,f6,f7,f8,f9,g9,lwv,k4c,k4d,w1,w2,w3,w4,w5,w6,w7,w8,w9,v1,v2,v3,dw,hw0,hw0i,hw0j,zZ,zA,zB,zC,zD,zE,zG,zH,zI,zJ,zK,if_true,if_false,reduceCtorEq,zW,zX,zY,za,zb]⟩,trivial⟩) ?_
   simp -implicitDefEqProofs only [zL,zM,zN,zO,zP,zQ hid,zR hid,zS hid,zT,zl,zU,yA,zj,zk,ze,zf,true_and,zV,zd,zh,zr,zn,zo,zp,zq,Int.le_refl,Int.toNat_zero,dM,d1,d5,d7,dl,olv,hkr,gk,z0,List.take_zero,zz,List.drop_zero,zg,zy,zl,z1,z2,z3,z4,z5,z6,z7,z8,z9,y1,y2,y3,t1,t2,t3,t4,u1,u2,u3,u4,if_true,if_false,d2,gn,hnr,owv,f1,f2,f3,f4,f5,f6,f7,f8,f9,g9,lwv,k4c,k4d,w1,w2,w3,w4,w5,w6,w7,w8,w9,v1,v2,v3,dw,hw0,hw0i,hw0j,zZ,zA,zB,zC,zD,zE,zG,zH,zI,zJ,zK,if_true,if_false,reduceCtorEq,zW,zX,zY,za,zb]
   have hx4:∀ r∈xa++xb,∃ b is,SmL b∧OwnL (A.set id (.box (rdW l p))++Lp) b.ts r is∧Off A Lp [1,M,M+1,e5,ew] is:=by
    intro r hr
    rcases List.mem_append.1 hr with h | h
    ·exact own_eachX hoxa (fun i hi=>offab4 i (by simp [hi])) (fun y hy=>hbsm.ls y (List.mem_of_mem_take hy)) r h
    ·exact own_eachX hoxb (fun i hi=>offab4 i (by simp [hi])) (fun y hy=>hbsm.ls y (List.mem_of_mem_drop hy)) r h
   have hws:∀ y∈x.Words.set 0 od,y.length≤201:=fun y hy=>(List.mem_or_eq_of_mem_set hy).elim (fun h=>hxsm.ws y h) fun h=>by rw [h]; exact hod
   have hwset:wr.set 0 [.t (.str od)]=((x.Words.set 0 od).map tStr).map (fun r=>r.map .t):=by
    rw [hwr,List.map_set,List.map_set]; rfl
   refine fin_spoil (by omega) (by omega) (spoil_fin (ra:=ra) (rb:=rb) (row:=[.t (.str b.Kind),.t (.str b.Name),.sl (A.length+e2) (rs2.length) 0 (rs2.length)]) (ch:=ch) (L:=Lp) (o:=.box (rdW l p)) ?_ ?_ ?_ ?_ ?_ ?_)
   ·simp only [zg,zy,zl,z1,z2,z3,z4,z5,z6,z7,z8,z9,y1,y2,y3,t1,t2,t3,t4,u1,u2,u3,u4,if_true,if_false,sk,dl,d5]
   ·exact sees_block hbsm.kind hbsm.name (seesLs_sl (rs:=rs2) (by omega) (by simp only [zM,zg,zy,zl,z1,z2,z3,z4,z5,z6,z7,z8,z9,y1,y2,y3,t1,t2,t3,t4,u1,u2,u3,u4,if_true,if_false,d2,gn,hnr,owv,f1,f2,f3,f4,f5,f6,f7,f8,f9,g9,lwv,k4c,k4d,w1,w2,w3,w4,w5,w6,w7,w8,w9,v1,v2,v3,dw,hw0,hw0i,hw0j,dl]) (fun r hr=>by
    rw [hrs2] at hr
    have hr2:r=[.t (.str x.Key),.sl (A.length+ew) wr.length 0 wr.length]∨r∈xa++xb:=by
     simp only [List.mem_append,List.mem_cons] at hr ⊢
     rcases hr with h | h | h
     ·exact .inr (.inl h)
     ·exact .inl h
     ·exact .inr (.inr h)
    rcases hr2 with rfl | hr
    ·exact sees_line (ws:=x.Words.set 0 od) ⟨hxsm.key,by simp; exact hxsm.n,hws⟩ (seesF_rows (by omega) (by omega) (by simp only [zM,zy,zg,zy,zl,z1,z2,z3,z4,z5,z6,z7,z8,z9,y1,y2,y3,t1,t2,t3,t4,u1,u2,u3,u4,if_true,if_false,d2,gn,hnr,owv,f1,f2,f3,f4,f5,f6,f7,f8,f9,g9,lwv,k4c,k4d,w1,w2,w3,w4,w5,w6,w7,w8,w9,v1,v2,v3,dw,hw0,hw0i,hw0j,dl]; rw [hwset]) (by simp [hwl]))
    ·obtain ⟨y,is,h1,h2,h3⟩:=hx4 r hr
     exact ⟨y,h1,(off_L h2 h3 (by repeat' (first | exact hsA _ | exact so3 _ (by first | assumption | simp [hch] | simp) | refine SameOff.set ?_ (by first | assumption | simp [hch] | simp) | refine SameOff.app ?_ (by simp [dl]; omega)))).seesF h3.ge⟩) (by rfl) (by have:=hbsm.n; omega))
   ·exact fun r hr=>.inl (hother r hr)
   ·repeat' (first | exact hsA _ | exact so3 _ (by first | assumption | simp [hch] | simp) | refine SameOff.set ?_ (by first | assumption | simp [hch] | simp) | refine SameOff.app ?_ (by simp [dl]; omega))
   ·rw [hrs]; simp only [zt,zj,zk]; omega
   ·omega
  simp -implicitDefEqProofs only [zL,zM,zN,zO,zP,zQ hid,zR hid,zS hid,zT,zl,zU,yA,zj,zk,ze,zf,true_and,zV,zd,zh,zr,zn,zo,zp,zq,zZ,zA,zB,zC,zD,zE,zG,zH,zI,zJ,zK,if_true,if_false,reduceCtorEq,zW,zX,zY,za,zb]
  refine cond_split (fun k5=>?_) (fun k5=>?_)
  ·simp -implicitDefEqProofs only [zL,zM,zN,zO,zP,zQ hid,zR hid,zS hid,zT,zl,zU,yA,zj,zk,ze,zf,true_and,zV,zd,zh,zr,zn,zo,zp,zq,dM,d1,d5,d7,dl,olv,hkr,gk,z0,List.take_zero,zz,List.drop_zero,zg,zy,zl,z1,z2,z3,z4,z5,z6,z7,z8,z9,y1,y2,y3,t1,t2,t3,t4,u1,u2,u3,u4,if_true,if_false,llv,zZ,zA,zB,zC,zD,zE,zG,zH,zI,zJ,zK,if_true,if_false,reduceCtorEq,zW,zX,zY,za,zb]
   refine cond_split (fun k5c=>?_) (fun k5c=>?_)
   rotate_left
   ·simp -implicitDefEqProofs only [zL,zM,zN,zO,zP,zQ hid,zR hid,zS hid,zT,zl,zU,yA,zj,zk,ze,zf,true_and,zV,zd,zh,zr,zn,zo,zp,zq,dM,d1,d5,d7,dl,olv,hkr,gk,z0,List.take_zero,zz,List.drop_zero,zg,zy,zl,z1,z2,z3,z4,z5,z6,z7,z8,z9,y1,y2,y3,t1,t2,t3,t4,u1,u2,u3,u4,if_true,if_false,llv,zZ,zA,zB,zC,zD,zE,zG,zH,zI,zJ,zK,if_true,if_false,reduceCtorEq,zW,zX,zY,za,zb]
    refine fin_spoil (by omega) (by omega) (spoil_fin (ra:=ra) (rb:=rb) (row:=[.t (.str b.Kind),.t (.str b.Name),lv]) (ch:=ch) (L:=Lp) (o:=.box (rdW l p)) ?_ ?_ ?_ ?_ ?_ ?_)
    ·simp only [zg,zy,zl,z1,z2,z3,z4,z5,z6,z7,z8,z9,y1,y2,y3,t1,t2,t3,t4,u1,u2,u3,u4,if_true,if_false,sk,dl,d5]
    ·exact sees_block hbsm.kind hbsm.name ⟨b.Lines,(by have:=hbsm.n; omega),hbsm.ls,(off_O holv offi (by repeat' (first | exact hsA _ | exact so3 _ (by first | assumption | simp [hch] | simp) | refine SameOff.set ?_ (by first | assumption | simp [hch] | simp) | refine SameOff.app ?_ (by simp [dl]; omega)))).seesF offi.ge⟩
    ·exact fun r hr=>.inl (hother r hr)
    ·repeat' (first | exact hsA _ | exact so3 _ (by first | assumption | simp [hch] | simp) | refine SameOff.set ?_ (by first | assumption | simp [hch] | simp) | refine SameOff.app ?_ (by simp [dl]; omega))
    ·rw [hrs]; simp only [zt,zj,zk]; omega
    ·omega
   have hne:b.Lines≠[]:=by intro e; rw [e] at k5c; simp at k5c
   have hpos:0<b.Lines.length:=List.length_pos_iff.2 hne
   obtain ⟨e2,rs2,js2,rfl,hp2,hoR2,rfl⟩:=hlines hne
   have hE2:=hw.2 (A.length+e2) (by simp)
   have hn2:n<b.Lines.length:=by omega
   have hlen2:rs2.length=b.Lines.length:=by have:=hoR2.len; simpa using this
   obtain ⟨x,hx⟩:∃ x,b.Lines[n]?=some x:=⟨b.Lines[n],List.getElem?_eq_getElem hn2⟩
   have hxsm:=hbsm.ls x (List.mem_of_getElem? hx)
   have hE5:e2≠e5:=by
    rintro rfl
    exact (List.nodup_cons.1 hw.1).1 (by simp)
   have f1:(e2=M+1)=False:=eq_false (by omega)
   have f2:(e2=M)=False:=eq_false (by omega)
   have f3:(e2=e5)=False:=eq_false hE5
   have f4:(e2=1)=False:=eq_false (by omega)
   have f5:(M+1=e2)=False:=eq_false (by omega)
   have f6:(M=e2)=False:=eq_false (by omega)
   have f7:(e5=e2)=False:=eq_false (fun e=>hE5 e.symm)
   have f8:(1=e2)=False:=eq_false (by omega)
   have f9:(e2<M+2)=True:=eq_true (by omega)
   have g9:(A.length+e2<A.length+(M+2))=True:=eq_true (by omega)
   have d2:L1[e2]?=some (.slc 2 rs2):=by rw [hsA [] e2 (by omega) (by simp)]; exact hp2
   have he2:e2∈ch:=by
    obtain ⟨e,he,h⟩:=(hes (A.length+e2)).1 (by simp)
    rw [hch,show e2=e by omega]
    simp [he]
   have off2:Off A Lp [1,M,M+1,e5,e2] js2:=fun i hi=>by
    obtain ⟨e,rfl,h1,h2⟩:=offi i (by simp [hi])
    refine ⟨e,rfl,h1,?_⟩
    have nd:=(List.nodup_cons.1 hw.1).2
    rw [List.nodup_append] at nd
    have nd2:=nd.2.1
    rw [List.nodup_append] at nd2
    have nd3:=(List.nodup_cons.1 nd2.1).1
    simp only [List.mem_cons,List.not_mem_nil,or_false,not_or] at h2 ⊢
    refine ⟨h2.1,h2.2.1,h2.2.2.1,h2.2.2.2,?_⟩
    rintro rfl
    exact nd3 hi
   have hx2:=own_eachX (A:=A) (L:=Lp) (ch:=[1,M,M+1,e5,e2]) hoR2 off2 hbsm.ls
   have hsplit2:b.Lines.map SheetLine.ts=(b.Lines.take n).map SheetLine.ts++x.ts::(b.Lines.drop (n+1)).map SheetLine.ts:=by
    rw [← List.map_cons,← List.map_append,← drop_of hx,List.take_append_drop]
   rw [hsplit2] at hoR2
   obtain ⟨xa,xrow,xb,ka,ki,kb,hrs2,rfl,hxa,hoxa,hoxi,hoxb⟩:=hoR2.split
   obtain ⟨wv,rfl,howv⟩:=own_line hoxi
   have hxak:xa.length=n:=by rw [hxa,List.length_map,List.length_take]; omega
   have gn:rs2[n]?=some [.t (.str x.Key),wv]:=by rw [hrs2,List.getElem?_append_right (by omega),hxak]; simp
   have offki:Off A Lp [1,M,M+1,e5,e2] ki:=fun i hi=>off2 i (by simp [hi])
   have owv:=howv.one
   have hnr:((n:Nat):Int)<(rs2.length:Int):=by omega
   have hxrow:[.t (.str x.Key),wv]∈rs2:=List.mem_of_getElem? gn
   have ap1:(rs2.length+1) * 40≤maxBy:=by have:=hbsm.n; simp only [maxBy]; omega
   have ap2:rs2.length≤9223372036854775806:=by have:=hbsm.n; omega
   simp -implicitDefEqProofs only [zL,zM,zN,zO,zP,zQ hid,zR hid,zS hid,zT,zl,zU,yA,zj,zk,ze,zf,true_and,zV,zd,zh,zr,zn,zo,zp,zq,dM,d1,d5,d7,dl,olv,hkr,gk,z0,List.take_zero,zz,List.drop_zero,zg,zy,zl,z1,z2,z3,z4,z5,z6,z7,z8,z9,y1,y2,y3,t1,t2,t3,t4,u1,u2,u3,u4,if_true,if_false,d2,gn,hnr,owv,f1,f2,f3,f4,f5,f6,f7,f8,f9,g9,ap1,ap2,zZ,zA,zB,zC,zD,zE,zG,zH,zI,zJ,zK,if_true,if_false,reduceCtorEq,zW,zX,zY,za,zb]
   refine fin_spoil (by omega) (by omega) (spoil_fin (ra:=ra) (rb:=rb) (row:=[.t (.str b.Kind),.t (.str b.Name),.sl (A.length+e2) (rs2.length+1) 0 (rs2.length+1)]) (ch:=ch) (L:=Lp) (o:=.box (rdW l p)) ?_ ?_ ?_ ?_ ?_ ?_)
   ·simp only [zg,zy,zl,z1,z2,z3,z4,z5,z6,z7,z8,z9,y1,y2,y3,t1,t2,t3,t4,u1,u2,u3,u4,if_true,if_false,sk,dl,d5]
   ·exact sees_block hbsm.kind hbsm.name (seesLs_sl (rs:=rs2++[[.t (.str x.Key),wv]]) (by omega) (by simp only [zM,zg,zy,zl,z1,z2,z3,z4,z5,z6,z7,z8,z9,y1,y2,y3,t1,t2,t3,t4,u1,u2,u3,u4,if_true,if_false,d2,gn,hnr,owv,f1,f2,f3,f4,f5,f6,f7,f8,f9,g9,dl]) (fun r hr=>(List.mem_append.1 hr).elim (fun h=>(hx2 _ h).elim fun y h=>h.elim fun is h=>⟨y,h.1,(off_L h.2.1 h.2.2 (by repeat' (first | exact hsA _ | exact so3 _ (by first | assumption | simp [hch] | simp) | refine SameOff.set ?_ (by first | assumption | simp [hch] | simp) | refine SameOff.app ?_ (by simp [dl]; omega)))).seesF h.2.2.ge⟩) fun h=>by rw [List.mem_singleton.1 h]; exact (fun h=>(hx2 _ h).elim fun y h=>h.elim fun is h=>⟨y,h.1,(off_L h.2.1 h.2.2 (by repeat' (first | exact hsA _ | exact so3 _ (by first | assumption | simp [hch] | simp) | refine SameOff.set ?_ (by first | assumption | simp [hch] | simp) | refine SameOff.app ?_ (by simp [dl]; omega)))).seesF h.2.2.ge⟩) hxrow) (by simp) (by have:=hbsm.n; omega))
   ·exact fun r hr=>.inl (hother r hr)
   ·repeat' (first | exact hsA _ | exact so3 _ (by first | assumption | simp [hch] | simp) | refine SameOff.set ?_ (by first | assumption | simp [hch] | simp) | refine SameOff.app ?_ (by simp [dl]; omega))
   ·rw [hrs]; simp only [zt,zj,zk]; omega
   ·omega
  simp -implicitDefEqProofs only [zL,zM,zN,zO,zP,zQ hid,zR hid,zS hid,zT,zl,zU,yA,zj,zk,ze,zf,true_and,zV,zd,zh,zr,zn,zo,zp,zq,zZ,zA,zB,zC,zD,zE,zG,zH,zI,zJ,zK,if_true,if_false,reduceCtorEq,zW,zX,zY,za,zb]
  refine cond_split (fun k6=>?_) (fun k6=>?_)
  ·simp -implicitDefEqProofs only [zL,zM,zN,zO,zP,zQ hid,zR hid,zS hid,zT,zl,zU,yA,zj,zk,ze,zf,true_and,zV,zd,zh,zr,zn,zo,zp,zq,dM,d1,d5,d7,dl,olv,hkr,gk,z0,List.take_zero,zz,List.drop_zero,zg,zy,zl,z1,z2,z3,z4,z5,z6,z7,z8,z9,y1,y2,y3,t1,t2,t3,t4,u1,u2,u3,u4,if_true,if_false,llv,zZ,zA,zB,zC,zD,zE,zG,zH,zI,zJ,zK,if_true,if_false,reduceCtorEq,zW,zX,zY,za,zb]
   refine cond_split (fun k6c=>?_) (fun k6c=>?_)
   rotate_left
   ·simp -implicitDefEqProofs only [zL,zM,zN,zO,zP,zQ hid,zR hid,zS hid,zT,zl,zU,yA,zj,zk,ze,zf,true_and,zV,zd,zh,zr,zn,zo,zp,zq,dM,d1,d5,d7,dl,olv,hkr,gk,z0,List.take_zero,zz,List.drop_zero,zg,zy,zl,z1,z2,z3,z4,z5,z6,z7,z8,z9,y1,y2,y3,t1,t2,t3,t4,u1,u2,u3,u4,if_true,if_false,llv,zZ,zA,zB,zC,zD,zE,zG,zH,zI,zJ,zK,if_true,if_false,reduceCtorEq,zW,zX,zY,za,zb]
    refine fin_spoil (by omega) (by omega) (spoil_fin (ra:=ra) (rb:=rb) (row:=[.t (.str b.Kind),.t (.str b.Name),lv]) (ch:=ch) (L:=Lp) (o:=.box (rdW l p)) ?_ ?_ ?_ ?_ ?_ ?_)
    ·simp only [zg,zy,zl,z1,z2,z3,z4,z5,z6,z7,z8,z9,y1,y2,y3,t1,t2,t3,t4,u1,u2,u3,u4,if_true,if_false,sk,dl,d5]
    ·exact sees_block hbsm.kind hbsm.name ⟨b.Lines,(by have:=hbsm.n; omega),hbsm.ls,(off_O holv offi (by repeat' (first | exact hsA _ | exact so3 _ (by first | assumption | simp [hch] | simp) | refine SameOff.set ?_ (by first | assumption | simp [hch] | simp) | refine SameOff.app ?_ (by simp [dl]; omega)))).seesF offi.ge⟩
    ·exact fun r hr=>.inl (hother r hr)
    ·repeat' (first | exact hsA _ | exact so3 _ (by first | assumption | simp [hch] | simp) | refine SameOff.set ?_ (by first | assumption | simp [hch] | simp) | refine SameOff.app ?_ (by simp [dl]; omega))
    ·rw [hrs]; simp only [zt,zj,zk]; omega
    ·omega
   have hl2:2≤b.Lines.length:=by simp at k6c; omega
   have hne:b.Lines≠[]:=by intro e; rw [e] at hl2; simp at hl2
   have hpos:0<b.Lines.length:=List.length_pos_iff.2 hne
   obtain ⟨e2,rs2,js2,rfl,hp2,hoR2,rfl⟩:=hlines hne
   have hE2:=hw.2 (A.length+e2) (by simp)
   have hn2:n<b.Lines.length:=by omega
   have hlen2:rs2.length=b.Lines.length:=by have:=hoR2.len; simpa using this
   obtain ⟨x,hx⟩:∃ x,b.Lines[n]?=some x:=⟨b.Lines[n],List.getElem?_eq_getElem hn2⟩
   have hxsm:=hbsm.ls x (List.mem_of_getElem? hx)
   have hE5:e2≠e5:=by
    rintro rfl
    exact (List.nodup_cons.1 hw.1).1 (by simp)
   have f1:(e2=M+1)=False:=eq_false (by omega)
   have f2:(e2=M)=False:=eq_false (by omega)
   have f3:(e2=e5)=False:=eq_false hE5
   have f4:(e2=1)=False:=eq_false (by omega)
   have f5:(M+1=e2)=False:=eq_false (by omega)
   have f6:(M=e2)=False:=eq_false (by omega)
   have f7:(e5=e2)=False:=eq_false (fun e=>hE5 e.symm)
   have f8:(1=e2)=False:=eq_false (by omega)
   have f9:(e2<M+2)=True:=eq_true (by omega)
   have g9:(A.length+e2<A.length+(M+2))=True:=eq_true (by omega)
   have d2:L1[e2]?=some (.slc 2 rs2):=by rw [hsA [] e2 (by omega) (by simp)]; exact hp2
   have he2:e2∈ch:=by
    obtain ⟨e,he,h⟩:=(hes (A.length+e2)).1 (by simp)
    rw [hch,show e2=e by omega]
    simp [he]
   have off2:Off A Lp [1,M,M+1,e5,e2] js2:=fun i hi=>by
    obtain ⟨e,rfl,h1,h2⟩:=offi i (by simp [hi])
    refine ⟨e,rfl,h1,?_⟩
    have nd:=(List.nodup_cons.1 hw.1).2
    rw [List.nodup_append] at nd
    have nd2:=nd.2.1
    rw [List.nodup_append] at nd2
    have nd3:=(List.nodup_cons.1 nd2.1).1
    simp only [List.mem_cons,List.not_mem_nil,or_false,not_or] at h2 ⊢
    refine ⟨h2.1,h2.2.1,h2.2.2.1,h2.2.2.2,?_⟩
    rintro rfl
    exact nd3 hi
   have hx2:=own_eachX (A:=A) (L:=Lp) (ch:=[1,M,M+1,e5,e2]) hoR2 off2 hbsm.ls
   have hsplit2:b.Lines.map SheetLine.ts=(b.Lines.take n).map SheetLine.ts++x.ts::(b.Lines.drop (n+1)).map SheetLine.ts:=by
    rw [← List.map_cons,← List.map_append,← drop_of hx,List.take_append_drop]
   rw [hsplit2] at hoR2
   obtain ⟨xa,xrow,xb,ka,ki,kb,hrs2,rfl,hxa,hoxa,hoxi,hoxb⟩:=hoR2.split
   obtain ⟨wv,rfl,howv⟩:=own_line hoxi
   have hxak:xa.length=n:=by rw [hxa,List.length_map,List.length_take]; omega
   have gn:rs2[n]?=some [.t (.str x.Key),wv]:=by rw [hrs2,List.getElem?_append_right (by omega),hxak]; simp
   have offki:Off A Lp [1,M,M+1,e5,e2] ki:=fun i hi=>off2 i (by simp [hi])
   have owv:=howv.one
   have hnr:((n:Nat):Int)<(rs2.length:Int):=by omega
   have hxrow:[.t (.str x.Key),wv]∈rs2:=List.mem_of_getElem? gn
   obtain ⟨r0,hr0⟩:∃ r0,rs2[0]?=some r0:=⟨rs2[0],List.getElem?_eq_getElem (by omega)⟩
   obtain ⟨r1,hr1⟩:∃ r1,rs2[1]?=some r1:=⟨rs2[1],List.getElem?_eq_getElem (by omega)⟩
   obtain ⟨x0,is0,hx0s,hx0,_⟩:=hx2 r0 (List.mem_of_getElem? hr0)
   obtain ⟨x1,is1,hx1s,hx1,_⟩:=hx2 r1 (List.mem_of_getElem? hr1)
   obtain ⟨v0,rfl,hv0⟩:=own_line hx0
   obtain ⟨v1,rfl,hv1⟩:=own_line hx1
   have ov0:=hv0.one
   have ov1:=hv1.one
   have m0:[.t (.str x0.Key),v0]∈rs2:=List.mem_of_getElem? hr0
   have m1:[.t (.str x1.Key),v1]∈rs2:=List.mem_of_getElem? hr1
   have hset1:∀ r,(rs2.set 0 r)[1]?=some [.t (.str x1.Key),v1]:=fun r=>by rw [List.getElem?_set_ne (by omega)]; exact hr1
   have h0i:(0:Int)<(rs2.length:Int):=by omega
   have h1i:(1:Int)<(rs2.length:Int):=by omega
   have l01:((0:Int)≤1)=True:=eq_true (by decide)
   have gnew1:∀ o,(L1++[o])[M+2]?=some o:=fun o=>by rw [List.getElem?_append_right (by omega),dl]; simp
   have snew1:∀ o o',(L1++[o]).set (M+2) o'=L1++[o']:=fun o o'=>by rw [List.set_append_right _ _ (by omega),dl]; simp
   have q1':∀ o,(L1++[o])[1]?=some (Ab.Obj.box [.nils]):=fun o=>by rw [List.getElem?_append_left (by omega)]; exact d1
   have qM':∀ o,(L1++[o])[M]?=some (Ab.Obj.box [.sl (A.length+e5) rs.length 0 rs.length]):=fun o=>by rw [List.getElem?_append_left (by omega)]; exact dM
   have q5':∀ o,(L1++[o])[e5]?=some (.slc 3 rs):=fun o=>by rw [List.getElem?_append_left (by omega)]; exact d5
   have q7':∀ o,(L1++[o])[M+1]?=some (Ab.Obj.box [.t (.str b.Kind),.t (.str b.Name),.sl (A.length+e2) rs2.length 0 rs2.length]):=fun o=>by rw [List.getElem?_append_left (by omega)]; exact d7
   have q2':∀ o,(L1++[o])[e2]?=some (.slc 2 rs2):=fun o=>by rw [List.getElem?_append_left (by omega)]; exact d2
   have i1:(M+1<M+2+1)=True:=eq_true (by omega)
   have i2:(M<M+2+1)=True:=eq_true (by omega)
   have i3:(1<M+2+1)=True:=eq_true (by omega)
   have i4:(e5<M+2+1)=True:=eq_true (by omega)
   have i5:(e2<M+2+1)=True:=eq_true (by omega)
   have i6:(M+2<M+2+1)=True:=eq_true (by omega)
   have i1b:(M+1<M+3)=True:=eq_true (by omega)
   have i3b:(1<M+3)=True:=eq_true (by omega)
   have i4b:(e5<M+3)=True:=eq_true (by omega)
   have i5b:(e2<M+3)=True:=eq_true (by omega)
   have i7:(A.length+1<A.length+(M+3))=True:=eq_true (by omega)
   have i8:(A.length+e5<A.length+(M+3))=True:=eq_true (by omega)
   have i9:(A.length+e2<A.length+(M+3))=True:=eq_true (by omega)
   have j1:(e2=M+2)=False:=eq_false (by omega)
   have j2:(e5=M+2)=False:=eq_false (by omega)
   have j3:(1=M+2)=False:=eq_false (by omega)
   simp -implicitDefEqProofs only [zL,zM,zN,zO,zP,zQ hid,zR hid,zS hid,zT,zl,zU,yA,zj,zk,ze,zf,true_and,zV,zd,zh,zr,zn,zo,zp,zq,dM,d1,d5,d7,dl,olv,hkr,gk,z0,List.take_zero,zz,List.drop_zero,zg,zy,zl,z1,z2,z3,z4,z5,z6,z7,z8,z9,y1,y2,y3,t1,t2,t3,t4,u1,u2,u3,u4,if_true,if_false,d2,gn,hnr,owv,f1,f2,f3,f4,f5,f6,f7,f8,f9,g9,hr0,hr1,ov0,ov1,hset1,h0i,h1i,l01,gnew1,snew1,q1',qM',q5',q7',q2',i1,i2,i3,i4,i5,i6,i1b,i3b,i4b,i5b,i7,i8,i9,j1,j2,j3,Int.le_refl,Int.toNat_zero,Int.toNat_one,zt,zj,zk,zZ,zA,zB,zC,zD,zE,zG,zH,zI,zJ,zK,if_true,if_false,reduceCtorEq,zW,zX,zY,za,zb]
   refine fin_spoil (by omega) (by omega) (spoil_fin (ra:=ra) (rb:=rb) (row:=[.t (.str b.Kind),.t (.str b.Name),.sl (A.length+e2) (rs2.length) 0 (rs2.length)]) (ch:=ch) (L:=Lp) (o:=.box (rdW l p)) ?_ ?_ ?_ ?_ ?_ ?_)
   ·simp only [zg,zy,zl,z1,z2,z3,z4,z5,z6,z7,z8,z9,y1,y2,y3,t1,t2,t3,t4,u1,u2,u3,u4,if_true,if_false,sk,dl,d5,hr0,hr1,ov0,ov1,hset1,h0i,h1i,l01,gnew1,snew1,q1',qM',q5',q7',q2',i1,i2,i3,i4,i5,i6,i1b,i3b,i4b,i5b,i7,i8,i9,j1,j2,j3,Int.le_refl,Int.toNat_zero,Int.toNat_one,zt,zj,zk]
   ·exact sees_block hbsm.kind hbsm.name (seesLs_sl (rs:=(rs2.set 0 [.t (.str x1.Key),v1]).set 1 [.t (.str x0.Key),v0]) (by omega) (by simp only [zM,zg,zy,zl,z1,z2,z3,z4,z5,z6,z7,z8,z9,y1,y2,y3,t1,t2,t3,t4,u1,u2,u3,u4,if_true,if_false,d2,gn,hnr,owv,f1,f2,f3,f4,f5,f6,f7,f8,f9,g9,hr0,hr1,ov0,ov1,hset1,h0i,h1i,l01,gnew1,snew1,q1',qM',q5',q7',q2',i1,i2,i3,i4,i5,i6,i1b,i3b,i4b,i5b,i7,i8,i9,j1,j2,j3,Int.le_refl,Int.toNat_zero,Int.toNat_one,zt,zj,zk,dl]) (fun r hr=>(List.mem_or_eq_of_mem_set hr).elim (fun h=>(List.mem_or_eq_of_mem_set h).elim (fun h=>(hx2 _ h).elim fun y h=>h.elim fun is h=>⟨y,h.1,(off_L h.2.1 h.2.2 (by repeat' (first | exact hsA _ | exact so3 _ (by first | assumption | simp [hch] | simp) | refine SameOff.set ?_ (by first | assumption | simp [hch] | simp) | refine SameOff.app ?_ (by simp [dl]; omega)))).seesF h.2.2.ge⟩) fun h=>by rw [h]; exact (fun h=>(hx2 _ h).elim fun y h=>h.elim fun is h=>⟨y,h.1,(off_L h.2.1 h.2.2 (by repeat' (first | exact hsA _ | exact so3 _ (by first | assumption | simp [hch] | simp) | refine SameOff.set ?_ (by first | assumption | simp [hch] | simp) | refine SameOff.app ?_ (by simp [dl]; omega)))).seesF h.2.2.ge⟩) m1) fun h=>by rw [h]; exact (fun h=>(hx2 _ h).elim fun y h=>h.elim fun is h=>⟨y,h.1,(off_L h.2.1 h.2.2 (by repeat' (first | exact hsA _ | exact so3 _ (by first | assumption | simp [hch] | simp) | refine SameOff.set ?_ (by first | assumption | simp [hch] | simp) | refine SameOff.app ?_ (by simp [dl]; omega)))).seesF h.2.2.ge⟩) m0) (by simp) (by have:=hbsm.n; omega))
   ·exact fun r hr=>.inl (hother r hr)
   ·repeat' (first | exact hsA _ | exact so3 _ (by first | assumption | simp [hch] | simp) | refine SameOff.set ?_ (by first | assumption | simp [hch] | simp) | refine SameOff.app ?_ (by simp [dl]; omega))
   ·rw [hrs]; simp only [zt,zj,zk]; omega
   ·omega
  simp -implicitDefEqProofs only [zL,zM,zN,zO,zP,zQ hid,zR hid,zS hid,zT,zl,zU,yA,zj,zk,ze,zf,true_and,zV,zd,zh,zr,zn,zo,zp,zq,zZ,zA,zB,zC,zD,zE,zG,zH,zI,zJ,zK,if_true,if_false,reduceCtorEq,zW,zX,zY,za,zb]
  refine cond_split (fun k7=>?_) (fun k7=>?_)
  ·simp -implicitDefEqProofs only [zL,zM,zN,zO,zP,zQ hid,zR hid,zS hid,zT,zl,zU,yA,zj,zk,ze,zf,true_and,zV,zd,zh,zr,zn,zo,zp,zq,dM,d1,d5,d7,dl,olv,hkr,gk,z0,List.take_zero,zz,List.drop_zero,zg,zy,zl,z1,z2,z3,z4,z5,z6,z7,z8,z9,y1,y2,y3,t1,t2,t3,t4,u1,u2,u3,u4,if_true,if_false,zZ,zA,zB,zC,zD,zE,zG,zH,zI,zJ,zK,if_true,if_false,reduceCtorEq,zW,zX,zY,za,zb]
   refine call_draw (d_pick l hl id 2 (by omega) (by omega)) hid (by omega) ?_
   rintro r q4 hq4a hq4b ⟨x1,rfl,hx1⟩
   have w10:IntKind.i64.wrap (10+((x1:Nat):Int))=((10+x1:Nat):Int):=by rw [IntWalk.i64_in _ (by omega)]; omega
   simp -implicitDefEqProofs only [zL,zM,zN,zO,zP,zQ hid,zR hid,zS hid,zT,zl,zU,yA,zj,zk,ze,zf,true_and,zV,zd,zh,zr,zn,zo,zp,zq,dM,d1,d5,d7,dl,olv,hkr,gk,z0,List.take_zero,zz,List.drop_zero,zg,zy,zl,z1,z2,z3,z4,z5,z6,z7,z8,z9,y1,y2,y3,t1,t2,t3,t4,u1,u2,u3,u4,if_true,if_false,w10,zZ,zA,zB,zC,zD,zE,zG,zH,zI,zJ,zK,if_true,if_false,reduceCtorEq,zW,zX,zY,za,zb]
   obtain ⟨N,hN⟩:∃ N,N=10+x1:=⟨_,rfl⟩
   rw [← hN]
   have x1a:∀ B o,(L1.set (M+1) B++[o])[M+1]?=some B:=fun B o=>by rw [List.getElem?_append_left (by rw [List.length_set]; omega),List.getElem?_set_self (by omega)]
   have x1b:∀ B o B',(L1.set (M+1) B++[o]).set (M+1) B'=L1.set (M+1) B'++[o]:=fun B o B'=>by rw [List.set_append_left _ _ (by rw [List.length_set]; omega),List.set_set]
   have x2a:∀ B o,(L1.set (M+1) B++[o])[M+2]?=some o:=fun B o=>by rw [List.getElem?_append_right (by rw [List.length_set]; omega),List.length_set,dl]; simp
   have x2b:∀ B o o',(L1.set (M+1) B++[o]).set (M+2) o'=L1.set (M+1) B++[o']:=fun B o o'=>by rw [List.set_append_right _ _ (by rw [List.length_set]; omega),List.length_set,dl]; simp
   refine loop_g [11,4,5,6,7,10] [4,5,6,7,10] (fun g:Gs9=>[(11,.t (.int .i64 (g.i:Nat)))]) (fun g=>A.set id (.box (rdW l q4))++((L1.set (M+1) (.box [.t (.str [98,101,114,116,104]),.t (.str b.Name),lvv (A.length+(M+2)) g.rows]))++obb g.rows)) (fun g=>g.i=g.rows.length∧g.i≤N∧∀ r∈g.rows,MarkRow r) (fun g=>N - g.i) ⟨0,[]⟩ (by simp) ⟨rfl,Nat.zero_le _,by simp⟩ (by simp [obb,lvv]) rfl ?_
   rintro ⟨i,rows⟩ ⟨j1,j2,j3⟩
   simp only at j1 j2 j3
   simp -implicitDefEqProofs only [zL,zM,zN,zO,zP,zQ hid,zR hid,zS hid,zT,zl,zU,yA,zj,zk,ze,zf,true_and,zV,zd,zh,zr,zn,zo,zp,zq,keep,dM,d1,d5,d7,dl,olv,hkr,gk,z0,List.take_zero,zz,List.drop_zero,zg,zy,zl,z1,z2,z3,z4,z5,z6,z7,z8,z9,y1,y2,y3,t1,t2,t3,t4,u1,u2,u3,u4,if_true,if_false,zZ,zA,zB,zC,zD,zE,zG,zH,zI,zJ,zK,if_true,if_false,reduceCtorEq,zW,zX,zY,za,zb]
   refine cond_split (fun c2=>?_) (fun c2=>?_)
   ·have hiN:i<N:=by simp at c2; omega
    have c97:IntKind.i64.wrap (97+((i:Nat):Int))=((97+i:Nat):Int):=by rw [IntWalk.i64_in _ (by omega)]; omega
    have more:=i64_succ (show i<4611686018427387904 by omega)
    have bb1:(rows.length+1) * 40≤maxBy:=by simp only [maxBy]; omega
    have bb2:rows.length+1≤9223372036854775807:=by omega
    rcases rows with _ | ⟨r,rows⟩
    ·simp only [lvv_nil,obb_nil,List.append_nil]
     simp -implicitDefEqProofs only [zL,zM,zN,zO,zP,zQ hid,zR hid,zS hid,zT,zl,zU,yA,zj,zk,ze,zf,true_and,zV,zd,zh,zr,zn,zo,zp,zq,dM,d1,d5,d7,dl,olv,hkr,gk,z0,List.take_zero,zz,List.drop_zero,zg,zy,zl,z1,z2,z3,z4,z5,z6,z7,z8,z9,y1,y2,y3,t1,t2,t3,t4,u1,u2,u3,u4,if_true,if_false,c97,more,x1a,x1b,x2a,x2b,zZ,zA,zB,zC,zD,zE,zG,zH,zI,zJ,zK,if_true,if_false,reduceCtorEq,zW,zX,zY,za,zb]
     refine lit_rows ?_
     simp -implicitDefEqProofs only [zL,zM,zN,zO,zP,zQ hid,zR hid,zS hid,zT,zl,zU,yA,zj,zk,ze,zf,true_and,zV,zd,zh,zr,zn,zo,zp,zq,dM,d1,d5,d7,dl,olv,hkr,gk,z0,List.take_zero,zz,List.drop_zero,zg,zy,zl,z1,z2,z3,z4,z5,z6,z7,z8,z9,y1,y2,y3,t1,t2,t3,t4,u1,u2,u3,u4,if_true,if_false,c97,more,x1a,x1b,x2a,x2b,zZ,zA,zB,zC,zD,zE,zG,zH,zI,zJ,zK,if_true,if_false,reduceCtorEq,zW,zX,zY,za,zb]
     refine ⟨by omega,lit_rows ?_⟩
     simp -implicitDefEqProofs only [zL,zM,zN,zO,zP,zQ hid,zR hid,zS hid,zT,zl,zU,yA,zj,zk,ze,zf,true_and,zV,zd,zh,zr,zn,zo,zp,zq,dM,d1,d5,d7,dl,olv,hkr,gk,z0,List.take_zero,zz,List.drop_zero,zg,zy,zl,z1,z2,z3,z4,z5,z6,z7,z8,z9,y1,y2,y3,t1,t2,t3,t4,u1,u2,u3,u4,if_true,if_false,c97,more,x1a,x1b,x2a,x2b,zZ,zA,zB,zC,zD,zE,zG,zH,zI,zJ,zK,if_true,if_false,reduceCtorEq,zW,zX,zY,za,zb]
     refine lit_rows ?_
     simp -implicitDefEqProofs only [zL,zM,zN,zO,zP,zQ hid,zR hid,zS hid,zT,zl,zU,yA,zj,zk,ze,zf,true_and,zV,zd,zh,zr,zn,zo,zp,zq,dM,d1,d5,d7,dl,olv,hkr,gk,z0,List.take_zero,zz,List.drop_zero,zg,zy,zl,z1,z2,z3,z4,z5,z6,z7,z8,z9,y1,y2,y3,t1,t2,t3,t4,u1,u2,u3,u4,if_true,if_false,c97,more,bb1,bb2,x1a,x1b,x2a,x2b,zZ,zA,zB,zC,zD,zE,zG,zH,zI,zJ,zK,if_true,if_false,reduceCtorEq,zW,zX,zY,za,zb]
     refine ⟨by simp only [maxBy]; omega,?_⟩
     exact lk_g ⟨i+1,[[.t (.str [109,97,114,107]),.rows 1 [[.t (.str [109,UInt8.ofNat (IntKind.u8.wrap ((97+i:Nat):Int)).toNat])]]]]⟩ (by simp only; omega) ⟨by simp only [zj,zk] at j1 ⊢; omega,by simp only; omega,fun r hr=>⟨_,by simp,List.mem_singleton.1 hr⟩⟩ (by simp) (by simp only [lvv_cons,obb_cons,zk]) (by simp [keep,eget])
    ·simp only [lvv_cons,obb_cons]
     simp -implicitDefEqProofs only [zL,zM,zN,zO,zP,zQ hid,zR hid,zS hid,zT,zl,zU,yA,zj,zk,ze,zf,true_and,zV,zd,zh,zr,zn,zo,zp,zq,dM,d1,d5,d7,dl,olv,hkr,gk,z0,List.take_zero,zz,List.drop_zero,zg,zy,zl,z1,z2,z3,z4,z5,z6,z7,z8,z9,y1,y2,y3,t1,t2,t3,t4,u1,u2,u3,u4,if_true,if_false,c97,more,x1a,x1b,x2a,x2b,zZ,zA,zB,zC,zD,zE,zG,zH,zI,zJ,zK,if_true,if_false,reduceCtorEq,zW,zX,zY,za,zb]
     refine lit_rows ?_
     simp -implicitDefEqProofs only [zL,zM,zN,zO,zP,zQ hid,zR hid,zS hid,zT,zl,zU,yA,zj,zk,ze,zf,true_and,zV,zd,zh,zr,zn,zo,zp,zq,dM,d1,d5,d7,dl,olv,hkr,gk,z0,List.take_zero,zz,List.drop_zero,zg,zy,zl,z1,z2,z3,z4,z5,z6,z7,z8,z9,y1,y2,y3,t1,t2,t3,t4,u1,u2,u3,u4,if_true,if_false,c97,more,x1a,x1b,x2a,x2b,zZ,zA,zB,zC,zD,zE,zG,zH,zI,zJ,zK,if_true,if_false,reduceCtorEq,zW,zX,zY,za,zb]
     refine ⟨by omega,lit_rows ?_⟩
     simp -implicitDefEqProofs only [zL,zM,zN,zO,zP,zQ hid,zR hid,zS hid,zT,zl,zU,yA,zj,zk,ze,zf,true_and,zV,zd,zh,zr,zn,zo,zp,zq,dM,d1,d5,d7,dl,olv,hkr,gk,z0,List.take_zero,zz,List.drop_zero,zg,zy,zl,z1,z2,z3,z4,z5,z6,z7,z8,z9,y1,y2,y3,t1,t2,t3,t4,u1,u2,u3,u4,if_true,if_false,c97,more,x1a,x1b,x2a,x2b,zZ,zA,zB,zC,zD,zE,zG,zH,zI,zJ,zK,if_true,if_false,reduceCtorEq,zW,zX,zY,za,zb]
     refine lit_rows ?_
     simp -implicitDefEqProofs only [zL,zM,zN,zO,zP,zQ hid,zR hid,zS hid,zT,zl,zU,yA,zj,zk,ze,zf,true_and,zV,zd,zh,zr,zn,zo,zp,zq,dM,d1,d5,d7,dl,olv,hkr,gk,z0,List.take_zero,zz,List.drop_zero,zg,zy,zl,z1,z2,z3,z4,z5,z6,z7,z8,z9,y1,y2,y3,t1,t2,t3,t4,u1,u2,u3,u4,if_true,if_false,c97,more,bb1,bb2,x1a,x1b,x2a,x2b,zZ,zA,zB,zC,zD,zE,zG,zH,zI,zJ,zK,if_true,if_false,reduceCtorEq,zW,zX,zY,za,zb]
     refine ⟨by simp only [maxBy,zj] at bb1 ⊢; omega,by simp only [zj] at bb2; omega,?_⟩
     exact lk_g ⟨i+1,r::(rows++[[.t (.str [109,97,114,107]),.rows 1 [[.t (.str [109,UInt8.ofNat (IntKind.u8.wrap ((97+i:Nat):Int)).toNat])]]]])⟩ (by simp only; omega) ⟨by simp only [zj,zt,zk] at j1 ⊢; omega,by simp only; omega,fun y hy=>(List.mem_append.1 (by simpa using hy:y∈(r::rows)++[[.t (.str [109,97,114,107]),.rows 1 [[.t (.str [109,UInt8.ofNat (IntKind.u8.wrap ((97+i:Nat):Int)).toNat])]]]])).elim (fun h=>j3 y h) fun h=>⟨_,by simp,List.mem_singleton.1 h⟩⟩ (by simp) (by simp [lvv_cons,obb_cons]) (by simp [keep,eget])
   ·obtain ⟨B,hB⟩:∃ B,B=[V.t (.str [98,101,114,116,104]),.t (.str b.Name),lvv (A.length+(M+2)) rows]:=⟨_,rfl⟩
    obtain ⟨L3,hL3⟩:∃ L3,L3=L1.set (M+1) (Ab.Obj.box B)++obb rows:=⟨_,rfl⟩
    rw [← hB,← hL3]
    have gt3:∀ e,e<M+2→e≠M+1→L3[e]?=L1[e]?:=fun e h1 h2=>by rw [hL3,List.getElem?_append_left (by rw [List.length_set]; omega),List.getElem?_set_ne (fun h=>h2 h.symm)]
    have g31:L3[1]?=some (Ab.Obj.box [.nils]):=by rw [gt3 1 (by omega) (by omega)]; exact d1
    have g3M:L3[M]?=some (Ab.Obj.box [.sl (A.length+e5) rs.length 0 rs.length]):=by rw [gt3 M (by omega) (by omega)]; exact dM
    have g35:L3[e5]?=some (.slc 3 rs):=by rw [gt3 e5 (by omega) (by omega)]; exact d5
    have g37:L3[M+1]?=some (Ab.Obj.box [.t (.str [98,101,114,116,104]),.t (.str b.Name),lvv (A.length+(M+2)) rows]):=by
     rw [hL3,List.getElem?_append_left (by rw [List.length_set]; omega),List.getElem?_set_self (by omega),hB]
    have g38:L3[M+2]?=(obb rows)[0]?:=by
     rw [hL3,List.getElem?_append_right (by rw [List.length_set]; omega),List.length_set,dl,Nat.sub_self]
    have l3:M+2≤L3.length:=by rw [hL3,List.length_append,List.length_set]; omega
    have l3a:(e5<L3.length)=True:=eq_true (by omega)
    have l3b:(1<L3.length)=True:=eq_true (by omega)
    have l3c:(A.length+e5<A.length+L3.length)=True:=eq_true (by omega)
    have l3d:(A.length+1<A.length+L3.length)=True:=eq_true (by omega)
    have l3e:(e5=M+2)=False:=eq_false (by omega)
    have l3f:(1=M+2)=False:=eq_false (by omega)
    have olv9:one (lvv (A.length+(M+2)) rows)=true:=by cases rows <;> rfl
    have so3:∀ c,M+1∈c→SameOff c Lp L3:=fun c hc=>by rw [hL3]; exact ((hsA c).set hc).app (by rw [List.length_set]; omega)
    simp -implicitDefEqProofs only [zL,zM,zN,zO,zP,zQ hid,zR hid,zS hid,zT,zl,zU,yA,zj,zk,ze,zf,true_and,zV,zd,zh,zr,zn,zo,zp,zq,g31,g3M,g35,g37,l3a,l3b,l3c,l3d,olv9,hkr,gk,z0,List.take_zero,zz,List.drop_zero,zg,zy,zl,z1,z2,z3,z4,z5,z6,z7,z8,z9,y1,y2,y3,t1,t2,t3,t4,u1,u2,u3,u4,if_true,if_false,zZ,zA,zB,zC,zD,zE,zG,zH,zI,zJ,zK,if_true,if_false,reduceCtorEq,zW,zX,zY,za,zb]
    refine fin_spoil (by omega) (by omega) (spoil_fin (ra:=ra) (rb:=rb) (row:=[.t (.str [98,101,114,116,104]),.t (.str b.Name),lvv (A.length+(M+2)) rows]) (ch:=ch) (L:=Lp) (o:=.box (rdW l p)) ?_ ?_ ?_ ?_ ?_ ?_)
    ·simp only [zg,zy,zl,z1,z2,z3,z4,z5,z6,z7,z8,z9,y1,y2,y3,t1,t2,t3,t4,u1,u2,u3,u4,if_true,if_false,sk,dl,d5,g35,l3a,l3b]
    ·exact sees_block (by decide) hbsm.name (lvv_sees j3 (by omega) (by simp only [l3e,l3f,zg,zy,zl,z1,z2,z3,z4,z5,z6,z7,z8,z9,y1,y2,y3,t1,t2,t3,t4,u1,u2,u3,u4,if_true,if_false]; exact g38))
    ·exact fun r hr=>.inl (hother r hr)
    ·repeat' (first | exact hsA _ | exact so3 _ (by first | assumption | simp [hch] | simp) | refine SameOff.set ?_ (by first | assumption | simp [hch] | simp) | refine SameOff.app ?_ (by simp [dl]; omega))
    ·rw [hrs]; simp only [zt,zj,zk]; omega
    ·omega
  simp -implicitDefEqProofs only [zL,zM,zN,zO,zP,zQ hid,zR hid,zS hid,zT,zl,zU,yA,zj,zk,ze,zf,true_and,zV,zd,zh,zr,zn,zo,zp,zq,zZ,zA,zB,zC,zD,zE,zG,zH,zI,zJ,zK,if_true,if_false,reduceCtorEq,zW,zX,zY,za,zb]
  refine loop_s [12,0,4,5,6,7] [0,4,5,6,7] (fun g:Gt9=>[(12,.t (.int .i64 (g.i:Nat)))]) (fun g=>A.set id (.box (rdW l g.q))++((L1.set M (.box [.sl (A.length+e5) (rs.length+g.X.length) 0 (rs.length+g.X.length)])).set e5 (.slc 3 (rs++g.X)))) (fun g=>g.i=g.X.length∧rs.length+g.X.length≤62∧q3≤g.q∧g.q≤q3+g.X.length∧∀ r∈g.X,TeamRow r) (fun g=>62 - g.X.length) ⟨0,q3,[]⟩ (A.length+(M+2)) (fun g=>by simp [dl]) (by simp) ⟨rfl,by simp; omega,Nat.le_refl _,Nat.le_refl _,by simp⟩ (by simp only [List.append_nil,zk,Nat.add_zero]; rw [Go.Ab.set_same dM,Go.Ab.set_same d5]) rfl ?_
  rintro ⟨i,q,X⟩ ⟨j1,j2,j3,j4,j5⟩
  simp only at j1 j2 j3 j4 j5
  simp -implicitDefEqProofs only [zL,zM,zN,zO,zP,zQ hid,zR hid,zS hid,zT,zl,zU,yA,zj,zk,ze,zf,true_and,zV,zd,zh,zr,zn,zo,zp,zq,keep,dM,d1,d5,d7,dl,olv,hkr,gk,z0,List.take_zero,zz,List.drop_zero,zg,zy,zl,z1,z2,z3,z4,z5,z6,z7,z8,z9,y1,y2,y3,t1,t2,t3,t4,u1,u2,u3,u4,if_true,if_false,zZ,zA,zB,zC,zD,zE,zG,zH,zI,zJ,zK,if_true,if_false,reduceCtorEq,zW,zX,zY,za,zb]
  refine call_draw (d_pick l hl id 2 (by omega) (by omega)) hid (by omega) ?_
  rintro r q4 hq4a hq4b ⟨x1,rfl,hx1⟩
  have w60:IntKind.i64.wrap (60+((x1:Nat):Int))=((60+x1:Nat):Int):=by rw [IntWalk.i64_in _ (by omega)]; omega
  simp -implicitDefEqProofs only [zL,zM,zN,zO,zP,zQ hid,zR hid,zS hid,zT,zl,zU,yA,zj,zk,ze,zf,true_and,zV,zd,zh,zr,zn,zo,zp,zq,dM,d1,d5,d7,dl,olv,hkr,gk,z0,List.take_zero,zz,List.drop_zero,zg,zy,zl,z1,z2,z3,z4,z5,z6,z7,z8,z9,y1,y2,y3,t1,t2,t3,t4,u1,u2,u3,u4,if_true,if_false,w60,zZ,zA,zB,zC,zD,zE,zG,zH,zI,zJ,zK,if_true,if_false,reduceCtorEq,zW,zX,zY,za,zb]
  refine And.intro (.inr ⟨fun _=>⟨_,_,rfl,rfl,by simp -implicitDefEqProofs only [zL,zM,zN,zO,zP,zQ hid,zR hid,zS hid,zT,zl,zU,yA,zj,zk,ze,zf,true_and,zV,zd,zh,zr,zn,zo,zp,zq,ev,eqK,onV,evLoad,ldT,ldV,dM,d1,d5,d7,dl,olv,hkr,gk,z0,List.take_zero,zz,List.drop_zero,zg,zy,zl,z1,z2,z3,z4,z5,z6,z7,z8,z9,y1,y2,y3,t1,t2,t3,t4,u1,u2,u3,u4,if_true,if_false,zZ,zA,zB,zC,zD,zE,zG,zH,zI,zJ,zK,if_true,if_false,reduceCtorEq,zW,zX,zY,za,zb]⟩,trivial⟩) ?_
  refine cond_split (fun c2=>?_) (fun c2=>?_)
  ·have hlt:rs.length+X.length<61:=by
    simp at c2
    omega
   have more:=i64_succ (show i<4611686018427387904 by omega)
   have ap1:(rs.length+X.length+1) * 56≤maxBy:=by simp only [maxBy]; omega
   have ap2:rs.length+X.length≤9223372036854775806:=by omega
   simp -implicitDefEqProofs only [zL,zM,zN,zO,zP,zQ hid,zR hid,zS hid,zT,zl,zU,yA,zj,zk,ze,zf,true_and,zV,zd,zh,zr,zn,zo,zp,zq,dM,d1,d5,d7,dl,olv,hkr,gk,z0,List.take_zero,zz,List.drop_zero,zg,zy,zl,z1,z2,z3,z4,z5,z6,z7,z8,z9,y1,y2,y3,t1,t2,t3,t4,u1,u2,u3,u4,if_true,if_false,more,ap1,ap2,zZ,zA,zB,zC,zD,zE,zG,zH,zI,zJ,zK,if_true,if_false,reduceCtorEq,zW,zX,zY,za,zb]
   obtain ⟨ca,hy1⟩:∃ y,y=IntKind.u8.wrap (IntKind.i64.wrap (97+IntKind.i64.wrap (((i:Nat):Int).tdiv 26))):=⟨_,rfl⟩
   obtain ⟨cb,hy2⟩:∃ y,y=IntKind.u8.wrap (IntKind.i64.wrap (97+((i:Nat):Int).tmod 26)):=⟨_,rfl⟩
   rw [← hy1,← hy2]
   refine ⟨by decide,by decide,lit_rows ?_⟩
   simp -implicitDefEqProofs only [zL,zM,zN,zO,zP,zQ hid,zR hid,zS hid,zT,zl,zU,yA,zj,zk,ze,zf,true_and,zV,zd,zh,zr,zn,zo,zp,zq,dM,d1,d5,d7,dl,olv,hkr,gk,z0,List.take_zero,zz,List.drop_zero,zg,zy,zl,z1,z2,z3,z4,z5,z6,z7,z8,z9,y1,y2,y3,t1,t2,t3,t4,u1,u2,u3,u4,if_true,if_false,more,ap1,ap2,zZ,zA,zB,zC,zD,zE,zG,zH,zI,zJ,zK,if_true,if_false,reduceCtorEq,zW,zX,zY,za,zb]
   refine ⟨by omega,lit_rows ?_⟩
   simp -implicitDefEqProofs only [zL,zM,zN,zO,zP,zQ hid,zR hid,zS hid,zT,zl,zU,yA,zj,zk,ze,zf,true_and,zV,zd,zh,zr,zn,zo,zp,zq,dM,d1,d5,d7,dl,olv,hkr,gk,z0,List.take_zero,zz,List.drop_zero,zg,zy,zl,z1,z2,z3,z4,z5,z6,z7,z8,z9,y1,y2,y3,t1,t2,t3,t4,u1,u2,u3,u4,if_true,if_false,more,ap1,ap2,zZ,zA,zB,zC,zD,zE,zG,zH,zI,zJ,zK,if_true,if_false,reduceCtorEq,zW,zX,zY,za,zb]
   refine ⟨by simp only [maxBy]; omega,?_⟩
   refine lk_s0 ⟨i+1,q4,X++[[.t (.str [116,101,97,109]),.t (.str [116,UInt8.ofNat ca.toNat,UInt8.ofNat cb.toNat]),.nils]]⟩ (by simp [dl]) (by simp) ?_ (by simp; omega) ⟨by simp; omega,by simp; omega,by simp only; omega,by simp; omega,fun r hr=>(List.mem_append.1 hr).elim (fun h=>j5 r h) fun h=>⟨_,by simp,List.mem_singleton.1 h⟩⟩ (by simp [keep,eget])
   rw [set_swap (by omega)]
   simp only [zt,zj,zk,ze]
  ·have gkx:∀ X,(rs++X)[k]?=some [.t (.str b.Kind),.t (.str b.Name),lv]:=fun X=>by rw [List.getElem?_append_left (by omega),gk]
   have hk1:((k:Nat):Int)<((rs.length+X.length:Nat):Int):=by omega
   simp -implicitDefEqProofs only [zL,zM,zN,zO,zP,zQ hid,zR hid,zS hid,zT,zl,zU,yA,zj,zk,ze,zf,true_and,zV,zd,zh,zr,zn,zo,zp,zq,dM,d1,d5,d7,dl,olv,hkr,gk,z0,List.take_zero,zz,List.drop_zero,zg,zy,zl,z1,z2,z3,z4,z5,z6,z7,z8,z9,y1,y2,y3,t1,t2,t3,t4,u1,u2,u3,u4,if_true,if_false,gkx,hk1,zZ,zA,zB,zC,zD,zE,zG,zH,zI,zJ,zK,if_true,if_false,reduceCtorEq,zW,zX,zY,za,zb]
   refine fin_spoil (by omega) (by omega) (spoil_fin (ra:=ra) (rb:=rb++X) (row:=[.t (.str b.Kind),.t (.str b.Name),lv]) (ch:=ch) (L:=Lp) (o:=.box (rdW l p)) ?_ ?_ ?_ ?_ ?_ ?_)
   ·simp only [zg,zy,zl,z1,z2,z3,z4,z5,z6,z7,z8,z9,y1,y2,y3,t1,t2,t3,t4,u1,u2,u3,u4,if_true,if_false,skx,dl,d5]
   ·exact sees_block hbsm.kind hbsm.name ⟨b.Lines,(by have:=hbsm.n; omega),hbsm.ls,(off_O holv offi (by repeat' (first | exact hsA _ | exact so3 _ (by first | assumption | simp [hch] | simp) | refine SameOff.set ?_ (by first | assumption | simp [hch] | simp) | refine SameOff.app ?_ (by simp [dl]; omega)))).seesF offi.ge⟩
   ·exact fun r hr=>(mem_ext hr).elim (fun h=>.inl (hother r h)) fun h=>.inr (team_sees (j5 r h))
   ·repeat' (first | exact hsA _ | exact so3 _ (by first | assumption | simp [hch] | simp) | refine SameOff.set ?_ (by first | assumption | simp [hch] | simp) | refine SameOff.app ?_ (by simp [dl]; omega))
   ·rw [hrs]; simp only [zt,zj,zk]; omega
   ·omega
end Go.Proofs.YtnnnemgbgilfaaaDoor.W
