/- FnSheetFill: what the law's code does: it returns true. Conditions: none. -/
import Derived.Test.YtnnnemgbgilfaaaDoorSheetWt
set_option linter.unusedSimpArgs false
set_option linter.unusedVariables false
set_option linter.defProp false
open Bool renaming and_eq_true → yB
open Go.Ab renaming eget → zC, env0 → zD, isNilP → zI, isNilS → zJ, lenSl → zH, lenStr → zG, nat_nn → zV, opv → zA, opvs → zB, putAt → zK, setD → zE
open List renaming getElem?_map → zm, length_map → zh, length_nil → zk, map_cons → zu, map_nil → zx
open Nat renaming reduceAdd → zb, reduceEqDiff → zX, reduceLeDiff → zW, reduceMul → za, reduceSub → zY, zero_le → zd
open Option renaming map_some → yA
open Go Go.Ab
set_option maxHeartbeats 4000000
namespace Go.Proofs.YtnnnemgbgilfaaaDoor.LFnSheetFill
open Go.Proofs.YtnnnemgbgilfaaaDoor.W
def c_laws_FnSheetFill:C:=(.seq (.ops [⟨some 2,none,.mv (.c (.t (.bool false)))⟩]) (.seq (.seq (.ops [⟨some 24,none,.mv (.t 0)⟩,⟨some 25,none,.len false (.t 24)⟩,⟨some 26,none,.bin .gtr (.t 25) (.c (.t (.int .i64 1048576)))⟩]) (.cond (.t 26) (.seq (.ops [⟨some 2,none,.mv (.c (.t (.bool true)))⟩]) .ret) .skip)) (.seq (.ops [⟨some 27,none,.mv (.t 0)⟩,⟨some 28,none,.call (.c (.fn (.func 5) [])) [.t 27]⟩,⟨some 3,none,.new [.nils]⟩,⟨none,none,.store 1 (.t 3) (.t 28)⟩]) (.seq (.ops [⟨some 29,none,.load (some 1) (.t 3)⟩,⟨some 30,none,.call (.c (.fn (.func 6) [])) [.t 29]⟩,⟨some 4,none,.new [.nils]⟩,⟨none,none,.store 1 (.t 4) (.t 30)⟩]) (.seq (.ops [⟨some 31,none,.load (some 1) (.t 3)⟩,⟨some 32,none,.call (.c (.fn (.func 7) [])) [.t 31]⟩,⟨some 5,none,.new [.nils]⟩,⟨none,none,.store 1 (.t 5) (.t 32)⟩]) (.seq (.seq (.drawn [.mk 0 false ⟨some 33,none,.load (some 1) (.t 4)⟩ [],.mk 1 false ⟨some 34,none,.load (some 1) (.t 3)⟩ [],.mk 2 true ⟨some 35,none,.call (.c (.fn (.func 9) [])) [.t 34]⟩ [⟨some 33,none,.load (some 1) (.t 4)⟩],.mk 3 false ⟨some 36,none,.call (.c (.fn (.func 8) [])) [.t 33,.t 35]⟩ [],.mk 4 false ⟨some 37,none,.un .not (.t 36)⟩ [],.mk 5 false ⟨some 38,none,.mv (.t 37)⟩ [],.mk 6 false ⟨some 39,some ⟨38,false⟩,.load (some 1) (.t 5)⟩ [],.mk 7 false ⟨some 40,some ⟨38,false⟩,.load (some 1) (.t 3)⟩ [],.mk 8 true ⟨some 41,some ⟨38,false⟩,.call (.c (.fn (.func 10) [])) [.t 40]⟩ [⟨some 39,some ⟨38,false⟩,.load (some 1) (.t 5)⟩],.mk 9 false ⟨some 42,some ⟨38,false⟩,.call (.c (.fn (.func 8) [])) [.t 39,.t 41]⟩ [],.mk 10 false ⟨some 43,some ⟨38,false⟩,.un .not (.t 42)⟩ [],.mk 11 false ⟨some 44,none,.pick (.t 38) (.c (.t (.bool true))) (.t 43)⟩ []]) (.cond (.t 44) (.seq (.ops [⟨some 2,none,.mv (.c (.t (.bool false)))⟩]) .ret) .skip)) (.seq (.seq (.ops [⟨some 45,none,.load (some 1) (.t 3)⟩,⟨some 46,none,.call (.c (.fn (.func 11) [])) [.t 45]⟩,⟨some 47,none,.un .not (.t 46)⟩]) (.cond (.t 47) (.seq (.ops [⟨some 48,none,.fieldAddr 0 (.t 4)⟩,⟨some 49,none,.load none (.t 48)⟩,⟨some 50,none,.len false (.t 49)⟩,⟨some 51,none,.fieldAddr 0 (.t 5)⟩,⟨some 52,none,.load none (.t 51)⟩,⟨some 53,none,.len false (.t 52)⟩,⟨some 54,none,.bin .add (.t 50) (.t 53)⟩,⟨some 55,none,.bin .eql (.t 54) (.c (.t (.int .i64 0)))⟩,⟨some 2,none,.mv (.t 55)⟩]) .ret) .skip)) (.seq (.seq (.drawn [.mk 0 false ⟨some 56,none,.load (some 1) (.t 4)⟩ [],.mk 2 false ⟨some 58,none,.load (some 1) (.t 4)⟩ [],.mk 1 true ⟨some 57,none,.call (.c (.fn (.func 6) [])) [.t 56]⟩ [⟨some 58,none,.load (some 1) (.t 4)⟩],.mk 3 false ⟨some 59,none,.call (.c (.fn (.func 8) [])) [.t 57,.t 58]⟩ [],.mk 4 false ⟨some 60,none,.un .not (.t 59)⟩ [],.mk 5 false ⟨some 61,none,.mv (.t 60)⟩ [],.mk 6 false ⟨some 62,some ⟨61,false⟩,.load (some 1) (.t 5)⟩ [],.mk 8 false ⟨some 64,some ⟨61,false⟩,.load (some 1) (.t 4)⟩ [],.mk 7 true ⟨some 63,some ⟨61,false⟩,.call (.c (.fn (.func 6) [])) [.t 62]⟩ [⟨some 64,some ⟨61,false⟩,.load (some 1) (.t 4)⟩],.mk 9 false ⟨some 65,some ⟨61,false⟩,.call (.c (.fn (.func 8) [])) [.t 63,.t 64]⟩ [],.mk 10 false ⟨some 66,some ⟨61,false⟩,.un .not (.t 65)⟩ [],.mk 11 false ⟨some 67,none,.pick (.t 61) (.c (.t (.bool true))) (.t 66)⟩ [],.mk 12 false ⟨some 68,none,.mv (.t 67)⟩ [],.mk 13 false ⟨some 69,some ⟨68,false⟩,.load (some 1) (.t 4)⟩ [],.mk 15 false ⟨some 71,some ⟨68,false⟩,.load (some 1) (.t 5)⟩ [],.mk 14 true ⟨some 70,some ⟨68,false⟩,.call (.c (.fn (.func 7) [])) [.t 69]⟩ [⟨some 71,some ⟨68,false⟩,.load (some 1) (.t 5)⟩],.mk 16 false ⟨some 72,some ⟨68,false⟩,.call (.c (.fn (.func 8) [])) [.t 70,.t 71]⟩ [],.mk 17 false ⟨some 73,some ⟨68,false⟩,.un .not (.t 72)⟩ [],.mk 18 false ⟨some 74,none,.pick (.t 68) (.c (.t (.bool true))) (.t 73)⟩ [],.mk 19 false ⟨some 75,none,.mv (.t 74)⟩ [],.mk 20 false ⟨some 76,some ⟨75,false⟩,.load (some 1) (.t 4)⟩ [],.mk 21 false ⟨some 77,some ⟨75,false⟩,.call (.c (.fn (.func 12) [])) [.t 76]⟩ [],.mk 22 false ⟨some 78,some ⟨75,false⟩,.un .not (.t 77)⟩ [],.mk 23 false ⟨some 79,none,.pick (.t 75) (.c (.t (.bool true))) (.t 78)⟩ [],.mk 24 false ⟨some 80,none,.mv (.t 79)⟩ [],.mk 25 false ⟨some 81,some ⟨80,false⟩,.load (some 1) (.t 5)⟩ [],.mk 26 false ⟨some 82,some ⟨80,false⟩,.call (.c (.fn (.func 12) [])) [.t 81]⟩ [],.mk 27 false ⟨some 83,some ⟨80,false⟩,.un .not (.t 82)⟩ [],.mk 28 false ⟨some 84,none,.pick (.t 80) (.c (.t (.bool true))) (.t 83)⟩ []]) (.cond (.t 84) (.seq (.ops [⟨some 2,none,.mv (.c (.t (.bool false)))⟩]) .ret) .skip)) (.seq (.seq (.ops [⟨some 6,none,.mv (.c (.t (.int .i64 0)))⟩]) (.block 0 (.loop (.seq (.seq (.ops [⟨some 85,none,.mv (.t 6)⟩,⟨some 86,none,.fieldAddr 0 (.t 3)⟩,⟨some 87,none,.load none (.t 86)⟩,⟨some 88,none,.len false (.t 87)⟩,⟨some 89,none,.bin .lss (.t 85) (.t 88)⟩]) (.cond (.t 89) .skip (.exit 0))) (.seq (.block 1 (.seq (.ops [⟨some 92,none,.fieldAddr 0 (.t 3)⟩,⟨some 93,none,.load none (.t 92)⟩,⟨some 94,none,.mv (.t 6)⟩,⟨some 95,none,.indexAddr 3 (.t 93) (.t 94)⟩,⟨some 96,none,.load (some 3) (.t 95)⟩,⟨some 7,none,.new [.t (.str []),.t (.str []),.nils]⟩,⟨none,none,.store 3 (.t 7) (.t 96)⟩]) (.seq (.ops [⟨some 97,none,.fieldAddr 0 (.t 7)⟩,⟨some 98,none,.load none (.t 97)⟩,⟨some 99,none,.call (.c (.fn (.func 13) [])) [.t 98]⟩,⟨some 8,none,.mv (.t 99)⟩]) (.seq (.ops [⟨some 9,none,.mv (.c (.t (.int .i64 0)))⟩]) (.block 2 (.loop (.seq (.seq (.ops [⟨some 100,none,.mv (.t 9)⟩,⟨some 101,none,.mv (.t 8)⟩,⟨some 102,none,.len false (.t 101)⟩,⟨some 103,none,.bin .lss (.t 100) (.t 102)⟩]) (.cond (.t 103) .skip (.exit 2))) (.seq (.block 3 (.seq (.drawn [.mk 0 false ⟨some 107,none,.load (some 1) (.t 3)⟩ [],.mk 1 false ⟨some 108,none,.fieldAddr 0 (.t 7)⟩ [],.mk 2 false ⟨some 109,none,.load none (.t 108)⟩ [],.mk 3 false ⟨some 110,none,.fieldAddr 1 (.t 7)⟩ [],.mk 4 false ⟨some 111,none,.load none (.t 110)⟩ [],.mk 5 false ⟨some 112,none,.mv (.t 8)⟩ [],.mk 6 false ⟨some 113,none,.mv (.t 9)⟩ [],.mk 7 false ⟨some 114,none,.indexAddr 4 (.t 112) (.t 113)⟩ [],.mk 8 false ⟨some 115,none,.fieldAddr 0 (.t 114)⟩ [],.mk 9 false ⟨some 116,none,.load none (.t 115)⟩ [],.mk 10 false ⟨some 117,none,.call (.c (.fn (.func 14) [])) [.t 107,.t 109,.t 111,.t 116]⟩ [],.mk 11 false ⟨some 106,none,.mv (.t 117)⟩ [],.mk 12 false ⟨some 118,none,.extract (.t 106) 0⟩ [],.mk 13 false ⟨some 119,none,.extract (.t 106) 1⟩ [],.mk 14 false ⟨some 10,none,.mv (.t 118)⟩ [],.mk 15 false ⟨some 11,none,.mv (.t 119)⟩ []]) (.seq (.drawn [.mk 0 false ⟨some 121,none,.load (some 1) (.t 4)⟩ [],.mk 1 false ⟨some 122,none,.fieldAddr 0 (.t 7)⟩ [],.mk 2 false ⟨some 123,none,.load none (.t 122)⟩ [],.mk 3 false ⟨some 124,none,.fieldAddr 1 (.t 7)⟩ [],.mk 4 false ⟨some 125,none,.load none (.t 124)⟩ [],.mk 5 false ⟨some 126,none,.mv (.t 8)⟩ [],.mk 6 false ⟨some 127,none,.mv (.t 9)⟩ [],.mk 7 false ⟨some 128,none,.indexAddr 4 (.t 126) (.t 127)⟩ [],.mk 8 false ⟨some 129,none,.fieldAddr 0 (.t 128)⟩ [],.mk 9 false ⟨some 130,none,.load none (.t 129)⟩ [],.mk 10 false ⟨some 131,none,.call (.c (.fn (.func 14) [])) [.t 121,.t 123,.t 125,.t 130]⟩ [],.mk 11 false ⟨some 120,none,.mv (.t 131)⟩ [],.mk 12 false ⟨some 132,none,.extract (.t 120) 0⟩ [],.mk 13 false ⟨some 133,none,.extract (.t 120) 1⟩ [],.mk 14 false ⟨some 12,none,.mv (.t 132)⟩ [],.mk 15 false ⟨some 13,none,.mv (.t 133)⟩ []]) (.seq (.drawn [.mk 0 false ⟨some 135,none,.load (some 1) (.t 5)⟩ [],.mk 1 false ⟨some 136,none,.fieldAddr 0 (.t 7)⟩ [],.mk 2 false ⟨some 137,none,.load none (.t 136)⟩ [],.mk 3 false ⟨some 138,none,.fieldAddr 1 (.t 7)⟩ [],.mk 4 false ⟨some 139,none,.load none (.t 138)⟩ [],.mk 5 false ⟨some 140,none,.mv (.t 8)⟩ [],.mk 6 false ⟨some 141,none,.mv (.t 9)⟩ [],.mk 7 false ⟨some 142,none,.indexAddr 4 (.t 140) (.t 141)⟩ [],.mk 8 false ⟨some 143,none,.fieldAddr 0 (.t 142)⟩ [],.mk 9 false ⟨some 144,none,.load none (.t 143)⟩ [],.mk 10 false ⟨some 145,none,.call (.c (.fn (.func 14) [])) [.t 135,.t 137,.t 139,.t 144]⟩ [],.mk 11 false ⟨some 134,none,.mv (.t 145)⟩ [],.mk 12 false ⟨some 146,none,.extract (.t 134) 0⟩ [],.mk 13 false ⟨some 147,none,.extract (.t 134) 1⟩ [],.mk 14 false ⟨some 14,none,.mv (.t 146)⟩ [],.mk 15 false ⟨some 15,none,.mv (.t 147)⟩ []]) (.seq (.ops [⟨some 148,none,.mv (.t 11)⟩,⟨some 149,none,.un .not (.t 148)⟩,⟨some 150,none,.mv (.t 149)⟩,⟨some 151,some ⟨150,false⟩,.mv (.t 13)⟩,⟨some 152,some ⟨150,false⟩,.un .not (.t 151)⟩,⟨some 153,none,.pick (.t 150) (.c (.t (.bool true))) (.t 152)⟩,⟨some 154,none,.mv (.t 153)⟩,⟨some 155,some ⟨154,false⟩,.mv (.t 15)⟩,⟨some 156,some ⟨154,false⟩,.un .not (.t 155)⟩,⟨some 157,none,.pick (.t 154) (.c (.t (.bool true))) (.t 156)⟩,⟨some 158,none,.mv (.t 157)⟩,⟨some 159,some ⟨158,false⟩,.mv (.t 10)⟩,⟨some 160,some ⟨158,false⟩,.mv (.t 12)⟩,⟨some 161,some ⟨158,false⟩,.call (.c (.fn (.func 15) [])) [.t 159,.t 160]⟩,⟨some 162,some ⟨158,false⟩,.un .not (.t 161)⟩,⟨some 163,none,.pick (.t 158) (.c (.t (.bool true))) (.t 162)⟩,⟨some 164,none,.mv (.t 163)⟩,⟨some 165,some ⟨164,false⟩,.mv (.t 10)⟩,⟨some 166,some ⟨164,false⟩,.mv (.t 14)⟩,⟨some 167,some ⟨164,false⟩,.call (.c (.fn (.func 15) [])) [.t 165,.t 166]⟩,⟨some 168,some ⟨164,false⟩,.un .not (.t 167)⟩,⟨some 169,none,.pick (.t 164) (.c (.t (.bool true))) (.t 168)⟩,⟨some 170,none,.mv (.t 169)⟩,⟨some 171,some ⟨170,false⟩,.mv (.t 8)⟩,⟨some 172,some ⟨170,false⟩,.mv (.t 9)⟩,⟨some 173,some ⟨170,false⟩,.indexAddr 4 (.t 171) (.t 172)⟩,⟨some 174,some ⟨170,false⟩,.fieldAddr 2 (.t 173)⟩,⟨some 175,some ⟨170,false⟩,.load none (.t 174)⟩,⟨some 176,some ⟨170,false⟩,.un .not (.t 175)⟩,⟨some 177,some ⟨170,false⟩,.mv (.t 176)⟩,⟨some 178,some ⟨177,true⟩,.mv (.t 10)⟩,⟨some 179,some ⟨177,true⟩,.len false (.t 178)⟩,⟨some 180,some ⟨177,true⟩,.bin .neq (.t 179) (.c (.t (.int .i64 1)))⟩,⟨some 181,some ⟨170,false⟩,.pick (.t 177) (.t 180) (.c (.t (.bool false)))⟩,⟨some 182,none,.pick (.t 170) (.c (.t (.bool true))) (.t 181)⟩]) (.cond (.t 182) (.seq (.ops [⟨some 2,none,.mv (.c (.t (.bool false)))⟩]) .ret) .skip)))))) (.ops [⟨some 104,none,.mv (.t 9)⟩,⟨some 105,none,.bin .add (.t 104) (.c (.t (.int .i64 1)))⟩,⟨some 9,none,.mv (.t 105)⟩]))))))))) (.ops [⟨some 90,none,.mv (.t 6)⟩,⟨some 91,none,.bin .add (.t 90) (.c (.t (.int .i64 1)))⟩,⟨some 6,none,.mv (.t 91)⟩])))))) (.seq (.ops [⟨some 184,none,.mv (.t 0)⟩,⟨some 185,none,.call (.c (.fn (.func 16) [])) [.t 184]⟩,⟨some 183,none,.mv (.t 185)⟩,⟨some 186,none,.extract (.t 183) 0⟩,⟨some 187,none,.extract (.t 183) 1⟩,⟨some 188,none,.extract (.t 183) 2⟩,⟨some 189,none,.extract (.t 183) 3⟩,⟨some 16,none,.new [.nils]⟩,⟨none,none,.store 1 (.t 16) (.t 186)⟩,⟨some 17,none,.mv (.t 187)⟩,⟨some 18,none,.mv (.t 188)⟩,⟨some 19,none,.mv (.t 189)⟩]) (.seq (.ops [⟨some 191,none,.load (some 1) (.t 16)⟩,⟨some 192,none,.mv (.t 17)⟩,⟨some 193,none,.mv (.t 18)⟩,⟨some 194,none,.mv (.t 19)⟩,⟨some 195,none,.call (.c (.fn (.func 14) [])) [.t 191,.t 192,.t 193,.t 194]⟩,⟨some 190,none,.mv (.t 195)⟩,⟨some 196,none,.extract (.t 190) 0⟩,⟨some 197,none,.extract (.t 190) 1⟩,⟨some 20,none,.mv (.t 196)⟩,⟨some 21,none,.mv (.t 197)⟩]) (.seq (.ops [⟨some 199,none,.load (some 1) (.t 16)⟩,⟨some 200,none,.mv (.t 17)⟩,⟨some 201,none,.mv (.t 18)⟩,⟨some 202,none,.mv (.t 19)⟩,⟨some 203,none,.call (.c (.fn (.func 17) [])) [.t 199,.t 200,.t 201,.t 202]⟩,⟨some 198,none,.mv (.t 203)⟩,⟨some 204,none,.extract (.t 198) 0⟩,⟨some 205,none,.extract (.t 198) 1⟩,⟨some 22,none,.mv (.t 204)⟩,⟨some 23,none,.mv (.t 205)⟩]) (.seq (.ops [⟨some 206,none,.mv (.t 21)⟩,⟨some 207,none,.mv (.t 23)⟩,⟨some 208,none,.eqB false (.t 206) (.t 207)⟩,⟨some 209,none,.mv (.t 208)⟩,⟨some 210,some ⟨209,true⟩,.mv (.t 20)⟩,⟨some 211,some ⟨209,true⟩,.mv (.t 22)⟩,⟨some 212,some ⟨209,true⟩,.call (.c (.fn (.func 15) [])) [.t 210,.t 211]⟩,⟨some 213,none,.pick (.t 209) (.t 212) (.c (.t (.bool false)))⟩,⟨some 2,none,.mv (.t 213)⟩]) .ret)))))))))))))
theorem k_laws_FnSheetFill:comp Tryd.prog 214 (Tryd.f3.body.getD .skip)=some c_laws_FnSheetFill:=by kernel_rfl
set_option maxHeartbeats 16000000 in
set_option maxRecDepth 20000 in
theorem lawFnSheetFill (a0:List UInt8) (σ:Store):ACalls Tryd.prog 3 [.t (.lst 1 (byteT a0))] σ fun r _=>r=.t (.bool true):=by
 refine acalls_of Tryd.func3 (by decide +kernel) (code:=Tryd.f3.body.getD .skip) (n:=214) (c:=c_laws_FnSheetFill) (rs:=[(.tmp 2)]) rfl rfl k_laws_FnSheetFill (by kernel_rfl) (by simp) (fun hσ=>?_)
 have fin:∀ {τ:Store},retV σ.length (fun r _=>r=.t (.bool true)) (σ++τ) (some [.t (.bool true)]):=ret_same rfl hσ rfl rfl
 have fin0:retV σ.length (fun r _=>r=.t (.bool true)) σ (some [.t (.bool true)]):=ret_same0 rfl rfl
 simp -implicitDefEqProofs only [c_laws_FnSheetFill,byteT_len,zZ,zA,zB,zC,zD,zE,zG,zH,zI,zJ,zK,if_true,if_false,reduceCtorEq,zW,zX,zY,za,zb]
 refine cond_split (fun h=>?_) (fun h=>?_)
 ·simp -implicitDefEqProofs only [zZ,zA,zB,zC,zD,zE,zG,zH,zI,zJ,zK,if_true,if_false,reduceCtorEq,zW,zX,zY,za,zb]
  exact fin0
 simp -implicitDefEqProofs only [zZ,zA,zB,zC,zD,zE,zG,zH,zI,zJ,zK,if_true,if_false,reduceCtorEq,zW,zX,zY,za,zb]
 refine call_by (by rw [List.append_nil]; exact spec_DrawSheetFill a0 _) ?_
 rintro r σ' ⟨⟨bs,rfl,hb1,hb2⟩,rfl⟩
 have hs:=sm_ok hb1 hb2
 have hF:=fill_ok hb1 hb2
 have hT:=trim_ok hb1 hb2
 simp -implicitDefEqProofs only [tSheetBlockS,zZ,zA,zB,zC,zD,zE,zG,zH,zI,zJ,zK,if_true,if_false,reduceCtorEq,zW,zX,zY,za,zb]
 refine call_pure (fillF ⟨bs⟩ hs _) ?_
 simp -implicitDefEqProofs only [zh,zV,zd,tSheetBlockS,Sheet.ts,Sheet.vs,zu,zx,zZ,zA,zB,zC,zD,zE,zG,zH,zI,zJ,zK,if_true,if_false,reduceCtorEq,zW,zX,zY,za,zb]
 refine call_pure (trimF ⟨bs⟩ hs _) ?_
 simp -implicitDefEqProofs only [zh,zV,zd,tSheetBlockS,Sheet.ts,Sheet.vs,zu,zx,zZ,zA,zB,zC,zD,zE,zG,zH,zI,zJ,zK,if_true,if_false,reduceCtorEq,zW,zX,zY,za,zb]
 refine call_pure (specF_SheetFill0 ⟨bs⟩ hs _) ?_
 simp -implicitDefEqProofs only [zh,zV,zd,tSheetBlockS,Sheet.ts,Sheet.vs,zu,zx,zZ,zA,zB,zC,zD,zE,zG,zH,zI,zJ,zK,if_true,if_false,reduceCtorEq,zW,zX,zY,za,zb]
 refine call_pure (wt_sheet (fillS ⟨bs⟩).Blocks hF.Blocks _) ?_
 simp -implicitDefEqProofs only [zh,zV,zd,tSheetBlockS,Sheet.ts,Sheet.vs,zu,zx,Bool.not_true,cond_f,cond_t,zZ,zA,zB,zC,zD,zE,zG,zH,zI,zJ,zK,if_true,if_false,reduceCtorEq,zW,zX,zY,za,zb]
 refine call_pure (specF_SheetTrim0 ⟨bs⟩ hs _) ?_
 simp -implicitDefEqProofs only [zh,zV,zd,tSheetBlockS,Sheet.ts,Sheet.vs,zu,zx,Bool.not_true,cond_f,cond_t,zZ,zA,zB,zC,zD,zE,zG,zH,zI,zJ,zK,if_true,if_false,reduceCtorEq,zW,zX,zY,za,zb]
 refine call_pure (wt_sheet (trimS ⟨bs⟩).Blocks hT.Blocks _) ?_
 simp -implicitDefEqProofs only [zh,zV,zd,tSheetBlockS,Sheet.ts,Sheet.vs,zu,zx,Bool.not_true,cond_f,cond_t,zZ,zA,zB,zC,zD,zE,zG,zH,zI,zJ,zK,if_true,if_false,reduceCtorEq,zW,zX,zY,za,zb]
 refine call_pure (spec_SheetValid ⟨bs⟩ hs _) ?_
 rcases hv:sheetR ⟨bs⟩ with _ | _
 ·have e1:fillS ⟨bs⟩=⟨[]⟩:=by rw [fillS,if_neg (by rw [hv]; decide)]
  have e2:trimS ⟨bs⟩=⟨[]⟩:=by rw [trimS,if_neg (by rw [hv]; decide)]
  have e3:IntKind.i64.wrap (((0:Nat):Int)+((0:Nat):Int))=0:=by decide
  rw [e1,e2]
  simp -implicitDefEqProofs only [zh,zV,zd,tSheetBlockS,Sheet.ts,Sheet.vs,zu,zx,Bool.not_false,cond_f,cond_t,zk,e3,beq_self_eq_true,zZ,zA,zB,zC,zD,zE,zG,zH,zI,zJ,zK,if_true,if_false,reduceCtorEq,zW,zX,zY,za,zb]
  exact fin
 have cff:∀ σ,ACalls Tryd.prog 6 [.agg (fillS ⟨bs⟩).vs] σ fun r s=>r=.agg ((fillS ⟨bs⟩).ts.map .t)∧s=σ:=fun σ=>by
  have:=fillF (fillS ⟨bs⟩) hF σ
  rwa [law_ff hv] at this
 have cft:∀ σ,ACalls Tryd.prog 6 [.agg (trimS ⟨bs⟩).vs] σ fun r s=>r=.agg ((fillS ⟨bs⟩).ts.map .t)∧s=σ:=fun σ=>by
  have:=fillF (trimS ⟨bs⟩) hT σ
  rwa [law_ft hv] at this
 have ctf:∀ σ,ACalls Tryd.prog 7 [.agg (fillS ⟨bs⟩).vs] σ fun r s=>r=.agg ((trimS ⟨bs⟩).ts.map .t)∧s=σ:=fun σ=>by
  have:=trimF (fillS ⟨bs⟩) hF σ
  rwa [law_tf hv] at this
 have cvf:∀ σ,ACalls Tryd.prog 12 [.agg (fillS ⟨bs⟩).vs] σ fun r s=>r=.t (.bool true)∧s=σ:=fun σ=>by
  have:=impl_SheetValid (fillS ⟨bs⟩) hF σ
  rwa [sheetR_fill hv] at this
 have cvt:∀ σ,ACalls Tryd.prog 12 [.agg (trimS ⟨bs⟩).vs] σ fun r s=>r=.t (.bool true)∧s=σ:=fun σ=>by
  have:=impl_SheetValid (trimS ⟨bs⟩) hT σ
  rwa [sheetR_trim hv] at this
 simp -implicitDefEqProofs only [zh,zV,zd,tSheetBlockS,Sheet.ts,Sheet.vs,zu,zx,Bool.not_true,cond_f,cond_t,zZ,zA,zB,zC,zD,zE,zG,zH,zI,zJ,zK,if_true,if_false,reduceCtorEq,zW,zX,zY,za,zb]
 refine call_pure (cff _) ?_
 simp -implicitDefEqProofs only [zh,zV,zd,tSheetBlockS,Sheet.ts,Sheet.vs,zu,zx,Bool.not_true,cond_f,cond_t,zZ,zA,zB,zC,zD,zE,zG,zH,zI,zJ,zK,if_true,if_false,reduceCtorEq,zW,zX,zY,za,zb]
 refine call_pure (wt_sheet (fillS ⟨bs⟩).Blocks hF.Blocks _) ?_
 simp -implicitDefEqProofs only [zh,zV,zd,tSheetBlockS,Sheet.ts,Sheet.vs,zu,zx,Bool.not_true,cond_f,cond_t,zZ,zA,zB,zC,zD,zE,zG,zH,zI,zJ,zK,if_true,if_false,reduceCtorEq,zW,zX,zY,za,zb]
 refine call_pure (cft _) ?_
 simp -implicitDefEqProofs only [zh,zV,zd,tSheetBlockS,Sheet.ts,Sheet.vs,zu,zx,Bool.not_true,cond_f,cond_t,zZ,zA,zB,zC,zD,zE,zG,zH,zI,zJ,zK,if_true,if_false,reduceCtorEq,zW,zX,zY,za,zb]
 refine call_pure (wt_sheet (fillS ⟨bs⟩).Blocks hF.Blocks _) ?_
 simp -implicitDefEqProofs only [zh,zV,zd,tSheetBlockS,Sheet.ts,Sheet.vs,zu,zx,Bool.not_true,cond_f,cond_t,zZ,zA,zB,zC,zD,zE,zG,zH,zI,zJ,zK,if_true,if_false,reduceCtorEq,zW,zX,zY,za,zb]
 refine call_pure (ctf _) ?_
 simp -implicitDefEqProofs only [zh,zV,zd,tSheetBlockS,Sheet.ts,Sheet.vs,zu,zx,Bool.not_true,cond_f,cond_t,zZ,zA,zB,zC,zD,zE,zG,zH,zI,zJ,zK,if_true,if_false,reduceCtorEq,zW,zX,zY,za,zb]
 refine call_pure (wt_sheet (trimS ⟨bs⟩).Blocks hT.Blocks _) ?_
 simp -implicitDefEqProofs only [zh,zV,zd,tSheetBlockS,Sheet.ts,Sheet.vs,zu,zx,Bool.not_true,cond_f,cond_t,zZ,zA,zB,zC,zD,zE,zG,zH,zI,zJ,zK,if_true,if_false,reduceCtorEq,zW,zX,zY,za,zb]
 refine call_pure (cvf _) ?_
 simp -implicitDefEqProofs only [zh,zV,zd,tSheetBlockS,Sheet.ts,Sheet.vs,zu,zx,Bool.not_true,cond_f,cond_t,zZ,zA,zB,zC,zD,zE,zG,zH,zI,zJ,zK,if_true,if_false,reduceCtorEq,zW,zX,zY,za,zb]
 refine call_pure (cvt _) ?_
 simp -implicitDefEqProofs only [zh,zV,zd,tSheetBlockS,Sheet.ts,Sheet.vs,zu,zx,Bool.not_true,cond_f,cond_t,zZ,zA,zB,zC,zD,zE,zG,zH,zI,zJ,zK,if_true,if_false,reduceCtorEq,zW,zX,zY,za,zb]
 refine loop_p [6,0,3,4,5] [0,3,4,5] (fun k:Nat=>[(6,.t (.int .i64 (k:Nat)))]) (fun k=>k≤bs.length) (fun k=>bs.length - k) 0 (by simp) (Nat.zero_le _) rfl ?_
 rintro i hi
 simp -implicitDefEqProofs only [keep,zh,zV,zd,tSheetBlockS,Sheet.ts,Sheet.vs,zu,zx,zZ,zA,zB,zC,zD,zE,zG,zH,zI,zJ,zK,if_true,if_false,reduceCtorEq,zW,zX,zY,za,zb]
 refine cond_split (fun c1=>?_) (fun c1=>?_)
 ·obtain ⟨b,hb,hlt⟩:=at_of c1
  have hbm:b∈bs:=List.mem_of_getElem? hb
  have morei:=i64_succ (show i<4611686018427387904 by omega)
  have hbr:=sheet_at hv hbm
  have hko:W.kindOk b.Kind=true:=by
   simp only [blockR,yB] at hbr
   exact hbr.1.1
  have crules:∀ σ,ACalls Tryd.prog 13 [.t (.str b.Kind)] σ fun r s=>r=.t (tSheetRuleS (rulesR b.Kind))∧s=σ:=fun σ=>by
   have:=impl_SheetRulesF b.Kind σ
   rwa [if_pos hko] at this
  have hr12:=(rules_small b.Kind).1
  simp -implicitDefEqProofs only [zh,zV,zd,tSheetBlockS,Sheet.ts,Sheet.vs,zu,zx,hb,yA,zm,SheetBlock.ts,zZ,zA,zB,zC,zD,zE,zG,zH,zI,zJ,zK,if_true,if_false,reduceCtorEq,zW,zX,zY,za,zb]
  refine call_pure (crules _) ?_
  simp -implicitDefEqProofs only [zh,zV,zd,tSheetBlockS,Sheet.ts,Sheet.vs,zu,zx,tSheetRuleS,zZ,zA,zB,zC,zD,zE,zG,zH,zI,zJ,zK,if_true,if_false,reduceCtorEq,zW,zX,zY,za,zb]
  refine loop_p [9,0,3,4,5,6,7,8] [0,3,4,5,6,7,8] (fun k:Nat=>[(9,.t (.int .i64 (k:Nat)))]) (fun k=>k≤(rulesR b.Kind).length) (fun k=>(rulesR b.Kind).length - k) 0 (by simp) (Nat.zero_le _) rfl ?_
  rintro j hj
  simp -implicitDefEqProofs only [keep,zh,zV,zd,tSheetBlockS,Sheet.ts,Sheet.vs,zu,zx,zZ,zA,zB,zC,zD,zE,zG,zH,zI,zJ,zK,if_true,if_false,reduceCtorEq,zW,zX,zY,za,zb]
  refine cond_split (fun c2=>?_) (fun c2=>?_)
  ·obtain ⟨ru,hru,hjlt⟩:=at_of c2
   have morej:=i64_succ (show j<4611686018427387904 by omega)
   obtain ⟨ls,g1,g2,g3,g4⟩:=law_get hv hbm (List.mem_of_getElem? hru)
   have cg1:=fun σ=>getF ⟨bs⟩ hs b.Kind b.Name ru.Key σ
   have cg2:=fun σ=>getF (fillS ⟨bs⟩) hF b.Kind b.Name ru.Key σ
   have cg3:=fun σ=>getF (trimS ⟨bs⟩) hT b.Kind b.Name ru.Key σ
   have lok:=get_ok hs b.Kind b.Name ru.Key
   rw [g1] at cg1 lok
   rw [g2] at cg2
   rw [g3] at cg3
   simp -implicitDefEqProofs only [zh,zV,zd,tSheetBlockS,Sheet.ts,Sheet.vs,zu,zx,hru,yA,zm,SheetRule.ts,zZ,zA,zB,zC,zD,zE,zG,zH,zI,zJ,zK,if_true,if_false,reduceCtorEq,zW,zX,zY,za,zb]
   refine call_pure (cg1 _) ?_
   simp -implicitDefEqProofs only [zh,zV,zd,tSheetBlockS,Sheet.ts,Sheet.vs,zu,zx,hru,yA,zm,SheetRule.ts,tSheetLineS,zZ,zA,zB,zC,zD,zE,zG,zH,zI,zJ,zK,if_true,if_false,reduceCtorEq,zW,zX,zY,za,zb]
   refine call_pure (cg2 _) ?_
   simp -implicitDefEqProofs only [zh,zV,zd,tSheetBlockS,Sheet.ts,Sheet.vs,zu,zx,hru,yA,zm,SheetRule.ts,tSheetLineS,zZ,zA,zB,zC,zD,zE,zG,zH,zI,zJ,zK,if_true,if_false,reduceCtorEq,zW,zX,zY,za,zb]
   refine call_pure (cg3 _) ?_
   simp -implicitDefEqProofs only [zh,zV,zd,tSheetBlockS,Sheet.ts,Sheet.vs,zu,zx,hru,yA,zm,SheetRule.ts,tSheetLineS,Bool.not_true,cond_f,cond_t,zZ,zA,zB,zC,zD,zE,zG,zH,zI,zJ,zK,if_true,if_false,reduceCtorEq,zW,zX,zY,za,zb]
   refine call_pure (wt_lines ls lok _) ?_
   simp -implicitDefEqProofs only [zh,zV,zd,tSheetBlockS,Sheet.ts,Sheet.vs,zu,zx,hru,yA,zm,SheetRule.ts,tSheetLineS,Bool.not_true,cond_f,cond_t,zZ,zA,zB,zC,zD,zE,zG,zH,zI,zJ,zK,if_true,if_false,reduceCtorEq,zW,zX,zY,za,zb]
   refine call_pure (wt_lines ls lok _) ?_
   simp -implicitDefEqProofs only [zh,zV,zd,tSheetBlockS,Sheet.ts,Sheet.vs,zu,zx,hru,yA,zm,SheetRule.ts,tSheetLineS,Bool.not_true,cond_f,cond_t,zZ,zA,zB,zC,zD,zE,zG,zH,zI,zJ,zK,if_true,if_false,reduceCtorEq,zW,zX,zY,za,zb]
   refine cond_split (fun c3=>?_) (fun c3=>?_)
   ·have hl1:((ls.length:Nat):Int)=((1:Nat):Int):=by rw [g4 (by simpa using c3)]
    have n11:((((1:Nat):Int)) != 1)=false:=rfl
    simp -implicitDefEqProofs only [zh,zV,zd,tSheetBlockS,Sheet.ts,Sheet.vs,zu,zx,hru,yA,zm,SheetRule.ts,tSheetLineS,Bool.not_true,cond_f,cond_t,hl1,n11,morej,c3,zZ,zA,zB,zC,zD,zE,zG,zH,zI,zJ,zK,if_true,if_false,reduceCtorEq,zW,zX,zY,za,zb]
    first | exact lk_p0 (j+1) (by simp) (by simp) (by omega) (by omega) rfl | exact lk_pm (τ:=[_]) (j+1) (by simp) (by simp) hσ (by simp [ltσ,Go.Ab.Obj.lt,V.lts,V.lt]) rfl (by omega) (by omega) (by simp [ltE,keep,eget,V.lt]) rfl
   ·simp -implicitDefEqProofs only [zh,zV,zd,tSheetBlockS,Sheet.ts,Sheet.vs,zu,zx,hru,yA,zm,SheetRule.ts,tSheetLineS,Bool.not_true,cond_f,cond_t,morej,c3,zZ,zA,zB,zC,zD,zE,zG,zH,zI,zJ,zK,if_true,if_false,reduceCtorEq,zW,zX,zY,za,zb]
    first | exact lk_p0 (j+1) (by simp) (by simp) (by omega) (by omega) rfl | exact lk_pm (τ:=[_]) (j+1) (by simp) (by simp) hσ (by simp [ltσ,Go.Ab.Obj.lt,V.lts,V.lt]) rfl (by omega) (by omega) (by simp [ltE,keep,eget,V.lt]) rfl
  ·simp -implicitDefEqProofs only [zh,zV,zd,tSheetBlockS,Sheet.ts,Sheet.vs,zu,zx,morei,zZ,zA,zB,zC,zD,zE,zG,zH,zI,zJ,zK,if_true,if_false,reduceCtorEq,zW,zX,zY,za,zb]
   first | exact lk_p0 (i+1) (by simp) (by simp) (by omega) (by omega) rfl | exact lk_pm (τ:=[_]) (i+1) (by simp) (by simp) hσ (by simp [ltσ,Go.Ab.Obj.lt,V.lts,V.lt]) rfl (by omega) (by omega) (by simp [ltE,keep,eget,V.lt]) rfl
 ·simp -implicitDefEqProofs only [zh,zV,zd,tSheetBlockS,Sheet.ts,Sheet.vs,zu,zx,zZ,zA,zB,zC,zD,zE,zG,zH,zI,zJ,zK,if_true,if_false,reduceCtorEq,zW,zX,zY,za,zb]
  refine call_by (by rw [List.append_nil]; exact spec_DrawSheetGet a0 _) ?_
  rintro r σ2 ⟨⟨os,kind,name,key,rfl,⟨ho1,ho2⟩,hk1,hk2,hk3⟩,rfl⟩
  have hos:=sm_ok ho1 ho2
  simp -implicitDefEqProofs only [zh,zV,zd,tSheetBlockS,Sheet.ts,Sheet.vs,zu,zx,zZ,zA,zB,zC,zD,zE,zG,zH,zI,zJ,zK,if_true,if_false,reduceCtorEq,zW,zX,zY,za,zb]
  refine call_pure (getF ⟨os⟩ hos kind name key _) ?_
  simp -implicitDefEqProofs only [zh,zV,zd,tSheetBlockS,Sheet.ts,Sheet.vs,zu,zx,tSheetLineS,zZ,zA,zB,zC,zD,zE,zG,zH,zI,zJ,zK,if_true,if_false,reduceCtorEq,zW,zX,zY,za,zb]
  refine call_pure (spec_SheetGet0 ⟨os⟩ hos kind name key _) ?_
  simp -implicitDefEqProofs only [zh,zV,zd,tSheetBlockS,Sheet.ts,Sheet.vs,zu,zx,tSheetLineS,beq_self_eq_true,cond_t,zZ,zA,zB,zC,zD,zE,zG,zH,zI,zJ,zK,if_true,if_false,reduceCtorEq,zW,zX,zY,za,zb]
  refine call_pure (wt_lines (getR ⟨os⟩ kind name key).1 (get_ok hos kind name key) _) ?_
  simp -implicitDefEqProofs only [zh,zV,zd,tSheetBlockS,Sheet.ts,Sheet.vs,zu,zx,tSheetLineS,beq_self_eq_true,cond_t,zZ,zA,zB,zC,zD,zE,zG,zH,zI,zJ,zK,if_true,if_false,reduceCtorEq,zW,zX,zY,za,zb]
  exact fin
end Go.Proofs.YtnnnemgbgilfaaaDoor.LFnSheetFill
