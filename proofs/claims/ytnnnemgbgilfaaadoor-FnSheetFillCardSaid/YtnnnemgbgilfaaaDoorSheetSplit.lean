/- strings.Split at one byte. Conditions: none. -/
import Derived.Test.YtnnnemgbgilfaaaDoorAb4
import Derived.KernelRfl
import Derived.Test.YtnnnemgbgilfaaaDoorProg
set_option linter.unusedSimpArgs false
set_option linter.unusedVariables false
set_option linter.defProp false
open Go.Ab renaming eget → zC, env0 → zD, isNilP → zI, isNilS → zJ, lenSl → zH, lenStr → zG, nat_nn → zV, opv → zA, opvs → zB, putAt → zK, setD → zE
open List renaming getElem?_map → zm, length_map → zh, map_cons → zu, map_nil → zx
open Nat renaming reduceAdd → zb, reduceEqDiff → zX, reduceLeDiff → zW, reduceMul → za, reduceSub → zY, zero_le → zd
open Option renaming map_some → yA
open Go Go.Ab
set_option maxHeartbeats 2000000
namespace Go.Proofs.YtnnnemgbgilfaaaDoor.W
def splitB (c:UInt8):List UInt8→List (List UInt8)
 | []=>[[]]
 | x::r=>if x == c then []::splitB c r else match splitB c r with
  | []=>[[x]]
  | h::t=>(x::h)::t
theorem splitB_len (c:UInt8):∀ s,(splitB c s).length=s.count c+1
 | []=>rfl
 | x::r=>by
  have ih:=splitB_len c r
  unfold splitB
  by_cases h:(x == c)=true
  ·rw [if_pos h,List.length_cons,ih,List.count_cons,if_pos h]
  ·rw [if_neg h,List.count_cons,if_neg h]
   match hs:splitB c r with
   | []=>rw [hs] at ih; simp at ih
   | y::t=>rw [hs] at ih; simpa using ih
theorem splitB_none (c:UInt8):∀ s,s.count c=0→splitB c s=[s]
 | [],_=>rfl
 | x::r,h=>by
  have hx:¬ (x == c)=true:=fun e=>by rw [List.count_cons,if_pos e] at h; omega
  rw [List.count_cons,if_neg hx] at h
  unfold splitB
  rw [if_neg hx,splitB_none c r h]
theorem ix_none (c:UInt8):∀ s,Lib.indexByte s c<0→s.count c=0
 | [],_=>rfl
 | x::r,h=>by
  unfold Lib.indexByte at h
  by_cases hx:(x == c)=true
  ·rw [if_pos hx] at h; omega
  ·rw [if_neg hx] at h
   rw [List.count_cons,if_neg hx]
   refine ix_none c r ?_
   by_cases h1:(Lib.indexByte r c == -1)=true
   ·rw [eq_of_beq h1]; decide
   ·rw [if_neg h1] at h; omega
theorem ix_some (c:UInt8):∀ s (m:Nat),Lib.indexByte s c=(m:Nat)→m<s.length∧splitB c s=s.take m::splitB c (s.drop (m+1))∧s.count c=(s.drop (m+1)).count c+1
 | [],m,h=>by simp [Lib.indexByte] at h
 | x::r,m,h=>by
  unfold Lib.indexByte at h
  by_cases hx:(x == c)=true
  ·rw [if_pos hx] at h
   obtain rfl:m=0:=by omega
   refine ⟨by simp,?_,?_⟩
   ·rw [splitB,if_pos hx]; rfl
   ·rw [List.count_cons,if_pos hx]; rfl
  ·rw [if_neg hx] at h
   by_cases h1:(Lib.indexByte r c == -1)=true
   ·rw [if_pos h1] at h; omega
   ·rw [if_neg h1] at h
    have hge:=Lib.indexByte_ge r c
    have h2:Lib.indexByte r c≠-1:=fun e=>h1 (by rw [e]; rfl)
    obtain ⟨k,rfl⟩:∃ k,m=k+1:=⟨m - 1,by omega⟩
    obtain ⟨a,b,d⟩:=ix_some c r k (by omega)
    refine ⟨by simp; omega,?_,?_⟩
    ·rw [show splitB c (x::r)=(match splitB c r with | []=>[[x]] | h::t=>(x::h)::t) by rw [splitB,if_neg hx],b]
     simp
    ·rw [List.count_cons,if_neg hx,d]
     simp
theorem x_ib (s:List UInt8) (c:UInt8):XCalls Tryd.prog 129 [.t (.str s),.t (.int .u8 (c.toNat:Int))] (.t (.int .i64 (Lib.indexByte s c))) :=
 x_indexByte Tryd.func129 (by kernel_rfl) (by kernel_rfl) (by kernel_rfl) (by kernel_rfl) s c
theorem x_ct (s:List UInt8) (c:UInt8):XCalls Tryd.prog 117 [.t (.str s),.t (.int .u8 (c.toNat:Int))] (.t (.int .i64 ((s.count c:Nat):Int))) :=
 x_countString Tryd.func117 (by kernel_rfl) (by kernel_rfl) (by kernel_rfl) (by kernel_rfl) s c
def c_internal_stringslite_IndexByte:C:=(.seq (.ops [⟨some 4,none,.mv (.c (.t (.int .i64 0)))⟩]) (.seq (.ops [⟨some 5,none,.mv (.t 0)⟩,⟨some 6,none,.mv (.t 1)⟩,⟨some 7,none,.call (.c (.fn (.func 129) [])) [.t 5,.t 6]⟩,⟨some 4,none,.mv (.t 7)⟩]) .ret))
theorem k_internal_stringslite_IndexByte:comp Tryd.prog 8 (Tryd.f125.body.getD .skip)=some c_internal_stringslite_IndexByte:=by kernel_rfl
theorem internal_stringslite_IndexByte (s:List UInt8) (c:UInt8)  (σ:Store):ACalls Tryd.prog 125 [.t (.str (s)),.t (.int .u8 (c.toNat:Int))] σ fun rr σ'=>rr=.t (.int .i64 (Lib.indexByte s c))∧σ'=σ:=by
 refine acalls_of Tryd.func125 (by decide +kernel) (code:=Tryd.f125.body.getD .skip) (n:=8) (c:=c_internal_stringslite_IndexByte) (rs:=[(.tmp 4)]) rfl rfl k_internal_stringslite_IndexByte (by kernel_rfl) (by simp) (fun hσ=>?_)
 have hh:True:=trivial
 have fin:∀ {u:V} {τ:Store},u=.t (.int .i64 (Lib.indexByte s c))→u.lt σ.length=true→retV σ.length (fun rr σ'=>rr=.t (.int .i64 (Lib.indexByte s c))∧σ'=σ) (σ++τ) (some [u]):=fun h h2=>ret_same rfl hσ h2 ⟨h,rfl⟩
 have fin0:∀ {u:V},u=.t (.int .i64 (Lib.indexByte s c))→retV σ.length (fun rr σ'=>rr=.t (.int .i64 (Lib.indexByte s c))∧σ'=σ) σ (some [u]):=fun h=>ret_same0 rfl ⟨h,rfl⟩
 simp -implicitDefEqProofs only [c_internal_stringslite_IndexByte,zZ,zA,zB,zC,zD,zE,zG,zH,zI,zJ,zK,if_true,if_false,reduceCtorEq,zW,zX,zY,za,zb]
 refine call_ext (x_ib s c) ?_
 simp -implicitDefEqProofs only [zZ,zA,zB,zC,zD,zE,zG,zH,zI,zJ,zK,if_true,if_false,reduceCtorEq,zW,zX,zY,za,zb]
 exact fin0 rfl
def c_internal_stringslite_Index:C:=(.seq (.ops [⟨some 4,none,.mv (.c (.t (.int .i64 0)))⟩]) (.seq (.ops [⟨some 14,none,.mv (.t 1)⟩,⟨some 15,none,.len true (.t 14)⟩,⟨some 5,none,.mv (.t 15)⟩]) (.seq (.block 0 (.seq (.ops [⟨some 17,none,.mv (.t 5)⟩,⟨some 18,none,.bin .eql (.t 17) (.c (.t (.int .i64 0)))⟩,⟨some 19,none,.mv (.t 18)⟩,⟨some 20,some ⟨19,false⟩,.mv (.t 1)⟩,⟨some 21,some ⟨19,false⟩,.mv (.t 0)⟩,⟨some 22,some ⟨19,false⟩,.bin .eql (.t 20) (.t 21)⟩,⟨some 23,none,.pick (.t 19) (.c (.t (.bool true))) (.t 22)⟩,⟨some 16,none,.mv (.t 23)⟩]) (.cond (.t 16) (.seq (.ops [⟨some 4,none,.mv (.c (.t (.int .i64 0)))⟩]) .ret) (.seq (.ops [⟨some 25,none,.mv (.t 5)⟩,⟨some 26,none,.bin .eql (.t 25) (.c (.t (.int .i64 1)))⟩,⟨some 24,none,.mv (.t 26)⟩]) (.cond (.t 24) (.seq (.ops [⟨some 27,none,.mv (.t 0)⟩,⟨some 28,none,.mv (.t 1)⟩,⟨some 29,none,.index (.t 28) (.c (.t (.int .i64 0)))⟩,⟨some 30,none,.call (.c (.fn (.func 125) [])) [.t 27,.t 29]⟩,⟨some 4,none,.mv (.t 30)⟩]) .ret) (.seq (.ops [⟨some 32,none,.mv (.t 5)⟩,⟨some 33,none,.mv (.t 0)⟩,⟨some 34,none,.len true (.t 33)⟩,⟨some 35,none,.bin .geq (.t 32) (.t 34)⟩,⟨some 31,none,.mv (.t 35)⟩]) (.cond (.t 31) (.seq (.ops [⟨some 4,none,.mv (.c (.t (.int .i64 (-1))))⟩]) .ret) (.seq .bad (.cond (.t 36) (.seq (.ops [⟨some 45,none,.mv (.t 0)⟩,⟨some 46,none,.mv (.t 1)⟩,⟨some 47,none,.call (.c (.fn (.func 126) [])) [.t 45,.t 46]⟩,⟨some 4,none,.mv (.t 47)⟩]) .ret) .skip))))))))) (.seq (.ops [⟨some 48,none,.mv (.t 1)⟩,⟨some 49,none,.index (.t 48) (.c (.t (.int .i64 0)))⟩,⟨some 6,none,.mv (.t 49)⟩]) (.seq (.ops [⟨some 50,none,.mv (.t 1)⟩,⟨some 51,none,.index (.t 50) (.c (.t (.int .i64 1)))⟩,⟨some 7,none,.mv (.t 51)⟩]) (.seq (.ops [⟨some 8,none,.mv (.c (.t (.int .i64 0)))⟩]) (.seq (.ops [⟨some 52,none,.mv (.t 0)⟩,⟨some 53,none,.len true (.t 52)⟩,⟨some 54,none,.mv (.t 5)⟩,⟨some 55,none,.bin .sub (.t 53) (.t 54)⟩,⟨some 56,none,.bin .add (.t 55) (.c (.t (.int .i64 1)))⟩,⟨some 9,none,.mv (.t 56)⟩]) (.seq (.ops [⟨some 10,none,.mv (.c (.t (.int .i64 0)))⟩]) (.seq (.block 1 (.loop (.seq (.seq (.ops [⟨some 57,none,.mv (.t 8)⟩,⟨some 58,none,.mv (.t 9)⟩,⟨some 59,none,.bin .lss (.t 57) (.t 58)⟩]) (.cond (.t 59) .skip (.exit 1))) (.block 2 (.seq (.seq (.ops [⟨some 60,none,.mv (.t 0)⟩,⟨some 61,none,.mv (.t 8)⟩,⟨some 62,none,.index (.t 60) (.t 61)⟩,⟨some 63,none,.mv (.t 6)⟩,⟨some 64,none,.bin .neq (.t 62) (.t 63)⟩]) (.cond (.t 64) (.seq (.ops [⟨some 65,none,.mv (.t 0)⟩,⟨some 66,none,.mv (.t 8)⟩,⟨some 67,none,.bin .add (.t 66) (.c (.t (.int .i64 1)))⟩,⟨some 68,none,.mv (.t 9)⟩,⟨some 69,none,.sliceStr (.t 65) (some (.t 67)) (some (.t 68))⟩,⟨some 70,none,.mv (.t 6)⟩,⟨some 71,none,.call (.c (.fn (.func 125) [])) [.t 69,.t 70]⟩,⟨some 11,none,.mv (.t 71)⟩]) (.seq (.seq (.ops [⟨some 72,none,.mv (.t 11)⟩,⟨some 73,none,.bin .lss (.t 72) (.c (.t (.int .i64 0)))⟩]) (.cond (.t 73) (.seq (.ops [⟨some 4,none,.mv (.c (.t (.int .i64 (-1))))⟩]) .ret) .skip)) (.ops [⟨some 74,none,.mv (.t 8)⟩,⟨some 75,none,.mv (.t 11)⟩,⟨some 76,none,.bin .add (.t 75) (.c (.t (.int .i64 1)))⟩,⟨some 77,none,.bin .add (.t 74) (.t 76)⟩,⟨some 8,none,.mv (.t 77)⟩]))) .skip)) (.seq (.seq (.ops [⟨some 78,none,.mv (.t 0)⟩,⟨some 79,none,.mv (.t 8)⟩,⟨some 80,none,.bin .add (.t 79) (.c (.t (.int .i64 1)))⟩,⟨some 81,none,.index (.t 78) (.t 80)⟩,⟨some 82,none,.mv (.t 7)⟩,⟨some 83,none,.bin .eql (.t 81) (.t 82)⟩,⟨some 84,none,.mv (.t 83)⟩,⟨some 85,some ⟨84,true⟩,.mv (.t 0)⟩,⟨some 86,some ⟨84,true⟩,.mv (.t 8)⟩,⟨some 87,some ⟨84,true⟩,.mv (.t 8)⟩,⟨some 88,some ⟨84,true⟩,.mv (.t 5)⟩,⟨some 89,some ⟨84,true⟩,.bin .add (.t 87) (.t 88)⟩,⟨some 90,some ⟨84,true⟩,.sliceStr (.t 85) (some (.t 86)) (some (.t 89))⟩,⟨some 91,some ⟨84,true⟩,.mv (.t 1)⟩,⟨some 92,some ⟨84,true⟩,.bin .eql (.t 90) (.t 91)⟩,⟨some 93,none,.pick (.t 84) (.t 92) (.c (.t (.bool false)))⟩]) (.cond (.t 93) (.seq (.ops [⟨some 94,none,.mv (.t 8)⟩,⟨some 4,none,.mv (.t 94)⟩]) .ret) .skip)) (.seq (.ops [⟨some 95,none,.mv (.t 8)⟩,⟨some 96,none,.bin .add (.t 95) (.c (.t (.int .i64 1)))⟩,⟨some 8,none,.mv (.t 96)⟩]) (.seq (.ops [⟨some 97,none,.mv (.t 10)⟩,⟨some 98,none,.bin .add (.t 97) (.c (.t (.int .i64 1)))⟩,⟨some 10,none,.mv (.t 98)⟩]) (.seq .bad (.cond (.t 107) (.seq (.ops [⟨some 108,none,.mv (.t 0)⟩,⟨some 109,none,.mv (.t 8)⟩,⟨some 110,none,.sliceStr (.t 108) (some (.t 109)) none⟩,⟨some 111,none,.mv (.t 1)⟩,⟨some 112,none,.call (.c (.fn (.func 126) [])) [.t 110,.t 111]⟩,⟨some 12,none,.mv (.t 112)⟩]) (.seq (.seq (.ops [⟨some 113,none,.mv (.t 12)⟩,⟨some 114,none,.bin .geq (.t 113) (.c (.t (.int .i64 0)))⟩]) (.cond (.t 114) (.seq (.ops [⟨some 115,none,.mv (.t 12)⟩,⟨some 116,none,.mv (.t 8)⟩,⟨some 117,none,.bin .add (.t 115) (.t 116)⟩,⟨some 4,none,.mv (.t 117)⟩]) .ret) .skip)) (.seq (.ops [⟨some 4,none,.mv (.c (.t (.int .i64 (-1))))⟩]) .ret))) (.seq .bad (.cond (.t 132) (.seq (.ops [⟨some 133,none,.mv (.t 0)⟩,⟨some 134,none,.mv (.t 8)⟩,⟨some 135,none,.sliceStr (.t 133) (some (.t 134)) none⟩,⟨some 136,none,.mv (.t 1)⟩,⟨some 137,none,.call (.c (.fn (.func 128) [])) [.t 135,.t 136]⟩,⟨some 13,none,.mv (.t 137)⟩]) (.seq (.seq (.ops [⟨some 138,none,.mv (.t 13)⟩,⟨some 139,none,.bin .lss (.t 138) (.c (.t (.int .i64 0)))⟩]) (.cond (.t 139) (.seq (.ops [⟨some 4,none,.mv (.c (.t (.int .i64 (-1))))⟩]) .ret) .skip)) (.seq (.ops [⟨some 140,none,.mv (.t 8)⟩,⟨some 141,none,.mv (.t 13)⟩,⟨some 142,none,.bin .add (.t 140) (.t 141)⟩,⟨some 4,none,.mv (.t 142)⟩]) .ret))) .skip)))))))))))) (.seq (.ops [⟨some 4,none,.mv (.c (.t (.int .i64 (-1))))⟩]) .ret))))))))))
theorem k_internal_stringslite_Index:comp Tryd.prog 143 (Tryd.f118.body.getD .skip)=some c_internal_stringslite_Index:=by kernel_rfl
theorem internal_stringslite_Index (s:List UInt8) (c:UInt8)  (σ:Store):ACalls Tryd.prog 118 [.t (.str (s)),.t (.str ([c]))] σ fun rr σ'=>rr=.t (.int .i64 (Lib.indexByte s c))∧σ'=σ:=by
 refine acalls_of Tryd.func118 (by decide +kernel) (code:=Tryd.f118.body.getD .skip) (n:=143) (c:=c_internal_stringslite_Index) (rs:=[(.tmp 4)]) rfl rfl k_internal_stringslite_Index (by kernel_rfl) (by simp) (fun hσ=>?_)
 have hh:True:=trivial
 have fin:∀ {u:V} {τ:Store},u=.t (.int .i64 (Lib.indexByte s c))→u.lt σ.length=true→retV σ.length (fun rr σ'=>rr=.t (.int .i64 (Lib.indexByte s c))∧σ'=σ) (σ++τ) (some [u]):=fun h h2=>ret_same rfl hσ h2 ⟨h,rfl⟩
 have fin0:∀ {u:V},u=.t (.int .i64 (Lib.indexByte s c))→retV σ.length (fun rr σ'=>rr=.t (.int .i64 (Lib.indexByte s c))∧σ'=σ) σ (some [u]):=fun h=>ret_same0 rfl ⟨h,rfl⟩
 have l1:((([c]:List UInt8).length:Nat):Int)=((1:Nat):Int):=rfl
 have d1:(((1:Nat):Int) == 0)=false:=rfl
 have d2:(((1:Nat):Int) == 1)=true:=rfl
 have d3:([c]:List UInt8)[Int.toNat 0]?=some c:=rfl
 simp -implicitDefEqProofs only [c_internal_stringslite_Index,l1,d1,d2,d3,Int.le_refl,cond_t,cond_f,zZ,zA,zB,zC,zD,zE,zG,zH,zI,zJ,zK,if_true,if_false,reduceCtorEq,zW,zX,zY,za,zb]
 repeat' (first
  | ((with_reducible refine cond_known (fun h=>?_) (fun h=>?_)) <;> (replace hh:=And.intro h hh; clear h; simp -implicitDefEqProofs only [hh,cond_t,cond_f,l1,d1,d2,d3,Int.le_refl,zZ,zA,zB,zC,zD,zE,zG,zH,zI,zJ,zK,if_true,if_false,reduceCtorEq,zW,zX,zY,za,zb]))
  | ((with_reducible refine call_pure (internal_stringslite_IndexByte s c _) ?_); simp -implicitDefEqProofs only [hh,cond_t,cond_f,l1,d1,d2,d3,Int.le_refl,zZ,zA,zB,zC,zD,zE,zG,zH,zI,zJ,zK,if_true,if_false,reduceCtorEq,zW,zX,zY,za,zb])
  | (first | ((with_reducible refine fin0 ?_); refine ti ?_; (try simp only [Known] at hh); first | rfl | (rw [← eq_of_beq hh.1]; simp [Lib.indexByte])) | ((with_reducible refine fin ?_ ?_); rotate_left; exact rfl; refine ti ?_; (try simp only [Known] at hh); first | rfl | (rw [← eq_of_beq hh.1]; simp [Lib.indexByte]))))
def c_strings_Index:C:=(.seq (.ops [⟨some 4,none,.mv (.c (.t (.int .i64 0)))⟩]) (.seq (.ops [⟨some 5,none,.mv (.t 0)⟩,⟨some 6,none,.mv (.t 1)⟩,⟨some 7,none,.call (.c (.fn (.func 118) [])) [.t 5,.t 6]⟩,⟨some 4,none,.mv (.t 7)⟩]) .ret))
theorem k_strings_Index:comp Tryd.prog 8 (Tryd.f108.body.getD .skip)=some c_strings_Index:=by kernel_rfl
theorem strings_Index (s:List UInt8) (c:UInt8)  (σ:Store):ACalls Tryd.prog 108 [.t (.str (s)),.t (.str ([c]))] σ fun rr σ'=>rr=.t (.int .i64 (Lib.indexByte s c))∧σ'=σ:=by
 refine acalls_of Tryd.func108 (by decide +kernel) (code:=Tryd.f108.body.getD .skip) (n:=8) (c:=c_strings_Index) (rs:=[(.tmp 4)]) rfl rfl k_strings_Index (by kernel_rfl) (by simp) (fun hσ=>?_)
 have hh:True:=trivial
 have fin:∀ {u:V} {τ:Store},u=.t (.int .i64 (Lib.indexByte s c))→u.lt σ.length=true→retV σ.length (fun rr σ'=>rr=.t (.int .i64 (Lib.indexByte s c))∧σ'=σ) (σ++τ) (some [u]):=fun h h2=>ret_same rfl hσ h2 ⟨h,rfl⟩
 have fin0:∀ {u:V},u=.t (.int .i64 (Lib.indexByte s c))→retV σ.length (fun rr σ'=>rr=.t (.int .i64 (Lib.indexByte s c))∧σ'=σ) σ (some [u]):=fun h=>ret_same0 rfl ⟨h,rfl⟩
 simp -implicitDefEqProofs only [c_strings_Index,zZ,zA,zB,zC,zD,zE,zG,zH,zI,zJ,zK,if_true,if_false,reduceCtorEq,zW,zX,zY,za,zb]
 refine call_pure (internal_stringslite_Index s c _) ?_
 simp -implicitDefEqProofs only [zZ,zA,zB,zC,zD,zE,zG,zH,zI,zJ,zK,if_true,if_false,reduceCtorEq,zW,zX,zY,za,zb]
 exact fin0 rfl
def c_strings_Count:C:=(.seq (.ops [⟨some 4,none,.mv (.c (.t (.int .i64 0)))⟩]) (.seq (.seq (.ops [⟨some 7,none,.mv (.t 1)⟩,⟨some 8,none,.len true (.t 7)⟩,⟨some 9,none,.bin .eql (.t 8) (.c (.t (.int .i64 0)))⟩]) (.cond (.t 9) (.seq (.ops [⟨some 10,none,.mv (.t 0)⟩,⟨some 11,none,.call (.c (.fn (.func 115) [])) [.t 10]⟩,⟨some 12,none,.bin .add (.t 11) (.c (.t (.int .i64 1)))⟩,⟨some 4,none,.mv (.t 12)⟩]) .ret) .skip)) (.seq (.seq (.ops [⟨some 13,none,.mv (.t 1)⟩,⟨some 14,none,.len true (.t 13)⟩,⟨some 15,none,.bin .eql (.t 14) (.c (.t (.int .i64 1)))⟩]) (.cond (.t 15) (.seq (.ops [⟨some 16,none,.mv (.t 0)⟩,⟨some 17,none,.mv (.t 1)⟩,⟨some 18,none,.index (.t 17) (.c (.t (.int .i64 0)))⟩,⟨some 19,none,.call (.c (.fn (.func 117) [])) [.t 16,.t 18]⟩,⟨some 4,none,.mv (.t 19)⟩]) .ret) .skip)) (.seq (.ops [⟨some 5,none,.mv (.c (.t (.int .i64 0)))⟩]) (.block 0 (.loop (.block 1 (.seq (.ops [⟨some 20,none,.mv (.t 0)⟩,⟨some 21,none,.mv (.t 1)⟩,⟨some 22,none,.call (.c (.fn (.func 108) [])) [.t 20,.t 21]⟩,⟨some 6,none,.mv (.t 22)⟩]) (.seq (.seq (.ops [⟨some 23,none,.mv (.t 6)⟩,⟨some 24,none,.bin .eql (.t 23) (.c (.t (.int .i64 (-1))))⟩]) (.cond (.t 24) (.seq (.ops [⟨some 25,none,.mv (.t 5)⟩,⟨some 4,none,.mv (.t 25)⟩]) .ret) .skip)) (.seq (.ops [⟨some 26,none,.mv (.t 5)⟩,⟨some 27,none,.bin .add (.t 26) (.c (.t (.int .i64 1)))⟩,⟨some 5,none,.mv (.t 27)⟩]) (.ops [⟨some 28,none,.mv (.t 0)⟩,⟨some 29,none,.mv (.t 6)⟩,⟨some 30,none,.mv (.t 1)⟩,⟨some 31,none,.len true (.t 30)⟩,⟨some 32,none,.bin .add (.t 29) (.t 31)⟩,⟨some 33,none,.sliceStr (.t 28) (some (.t 32)) none⟩,⟨some 0,none,.mv (.t 33)⟩])))))))))))
theorem k_strings_Count:comp Tryd.prog 34 (Tryd.f107.body.getD .skip)=some c_strings_Count:=by kernel_rfl
theorem strings_Count (s:List UInt8) (c:UInt8)  (σ:Store):ACalls Tryd.prog 107 [.t (.str (s)),.t (.str ([c]))] σ fun rr σ'=>rr=.t (.int .i64 (((s.count c:Nat):Int)))∧σ'=σ:=by
 refine acalls_of Tryd.func107 (by decide +kernel) (code:=Tryd.f107.body.getD .skip) (n:=34) (c:=c_strings_Count) (rs:=[(.tmp 4)]) rfl rfl k_strings_Count (by kernel_rfl) (by simp) (fun hσ=>?_)
 have hh:True:=trivial
 have fin:∀ {u:V} {τ:Store},u=.t (.int .i64 (((s.count c:Nat):Int)))→u.lt σ.length=true→retV σ.length (fun rr σ'=>rr=.t (.int .i64 (((s.count c:Nat):Int)))∧σ'=σ) (σ++τ) (some [u]):=fun h h2=>ret_same rfl hσ h2 ⟨h,rfl⟩
 have fin0:∀ {u:V},u=.t (.int .i64 (((s.count c:Nat):Int)))→retV σ.length (fun rr σ'=>rr=.t (.int .i64 (((s.count c:Nat):Int)))∧σ'=σ) σ (some [u]):=fun h=>ret_same0 rfl ⟨h,rfl⟩
 have l1:((([c]:List UInt8).length:Nat):Int)=((1:Nat):Int):=rfl
 have d1:(((1:Nat):Int) == 0)=false:=rfl
 have d2:(((1:Nat):Int) == 1)=true:=rfl
 have d3:([c]:List UInt8)[Int.toNat 0]?=some c:=rfl
 simp -implicitDefEqProofs only [c_strings_Count,l1,d1,d2,d3,Int.le_refl,cond_t,cond_f,zZ,zA,zB,zC,zD,zE,zG,zH,zI,zJ,zK,if_true,if_false,reduceCtorEq,zW,zX,zY,za,zb]
 refine call_ext (x_ct s c) ?_
 simp -implicitDefEqProofs only [zZ,zA,zB,zC,zD,zE,zG,zH,zI,zJ,zK,if_true,if_false,reduceCtorEq,zW,zX,zY,za,zb]
 exact fin0 rfl
theorem rep_set {a b:List (List UInt8)} {w:List UInt8} {n:Nat} (hn:0<n):((a++List.replicate n []).map tStr).set a.length [T.str w]=((a++[w]++List.replicate (n - 1) []).map tStr):=by
 obtain ⟨n,rfl⟩:∃ m,n=m+1:=⟨n - 1,by omega⟩
 rw [List.map_append,List.set_append_right _ _ (by simp)]
 simp [List.replicate_succ,tStr]
def c_strings_genSplit:C:=(.seq (.ops [⟨some 8,none,.mv (.c .nils)⟩]) (.seq (.seq (.ops [⟨some 12,none,.mv (.t 3)⟩,⟨some 13,none,.bin .eql (.t 12) (.c (.t (.int .i64 0)))⟩]) (.cond (.t 13) (.seq (.ops [⟨some 8,none,.mv (.c .nils)⟩]) .ret) .skip)) (.seq (.seq (.ops [⟨some 14,none,.mv (.t 1)⟩,⟨some 15,none,.bin .eql (.t 14) (.c (.t (.str [])))⟩]) (.cond (.t 15) (.seq (.ops [⟨some 16,none,.mv (.t 0)⟩,⟨some 17,none,.mv (.t 3)⟩,⟨some 18,none,.call (.c (.fn (.func 106) [])) [.t 16,.t 17]⟩,⟨some 8,none,.mv (.t 18)⟩]) .ret) .skip)) (.seq (.seq (.ops [⟨some 19,none,.mv (.t 3)⟩,⟨some 20,none,.bin .lss (.t 19) (.c (.t (.int .i64 0)))⟩]) (.cond (.t 20) (.ops [⟨some 21,none,.mv (.t 0)⟩,⟨some 22,none,.mv (.t 1)⟩,⟨some 23,none,.call (.c (.fn (.func 107) [])) [.t 21,.t 22]⟩,⟨some 24,none,.bin .add (.t 23) (.c (.t (.int .i64 1)))⟩,⟨some 3,none,.mv (.t 24)⟩]) .skip)) (.seq (.ops [⟨some 25,none,.mv (.t 3)⟩,⟨some 26,none,.mv (.t 0)⟩,⟨some 27,none,.len true (.t 26)⟩,⟨some 28,none,.bin .add (.t 27) (.c (.t (.int .i64 1)))⟩,⟨some 29,none,.mm false (.t 25) (.t 28)⟩,⟨some 3,none,.mv (.t 29)⟩]) (.seq (.ops [⟨some 30,none,.mv (.t 3)⟩,⟨some 31,none,.mkSl 1 16 [.t (.str [])] (.t 30) (.t 30)⟩,⟨some 9,none,.mv (.t 31)⟩]) (.seq (.ops [⟨some 32,none,.mv (.t 3)⟩,⟨some 33,none,.bin .sub (.t 32) (.c (.t (.int .i64 1)))⟩,⟨some 3,none,.mv (.t 33)⟩]) (.seq (.ops [⟨some 10,none,.mv (.c (.t (.int .i64 0)))⟩]) (.seq (.block 0 (.loop (.seq (.seq (.ops [⟨some 34,none,.mv (.t 10)⟩,⟨some 35,none,.mv (.t 3)⟩,⟨some 36,none,.bin .lss (.t 34) (.t 35)⟩]) (.cond (.t 36) .skip (.exit 0))) (.block 1 (.seq (.ops [⟨some 37,none,.mv (.t 0)⟩,⟨some 38,none,.mv (.t 1)⟩,⟨some 39,none,.call (.c (.fn (.func 108) [])) [.t 37,.t 38]⟩,⟨some 11,none,.mv (.t 39)⟩]) (.seq (.seq (.ops [⟨some 40,none,.mv (.t 11)⟩,⟨some 41,none,.bin .lss (.t 40) (.c (.t (.int .i64 0)))⟩]) (.cond (.t 41) (.exit 0) .skip)) (.seq (.ops [⟨some 42,none,.mv (.t 9)⟩,⟨some 43,none,.mv (.t 10)⟩,⟨some 44,none,.mv (.t 0)⟩,⟨some 45,none,.mv (.t 11)⟩,⟨some 46,none,.mv (.t 2)⟩,⟨some 47,none,.bin .add (.t 45) (.t 46)⟩,⟨some 48,none,.sliceStr (.t 44) none (some (.t 47))⟩,⟨some 49,none,.indexAddr 1 (.t 42) (.t 43)⟩,⟨none,none,.store 1 (.t 49) (.t 48)⟩]) (.seq (.ops [⟨some 50,none,.mv (.t 0)⟩,⟨some 51,none,.mv (.t 11)⟩,⟨some 52,none,.mv (.t 1)⟩,⟨some 53,none,.len true (.t 52)⟩,⟨some 54,none,.bin .add (.t 51) (.t 53)⟩,⟨some 55,none,.sliceStr (.t 50) (some (.t 54)) none⟩,⟨some 0,none,.mv (.t 55)⟩]) (.ops [⟨some 56,none,.mv (.t 10)⟩,⟨some 57,none,.bin .add (.t 56) (.c (.t (.int .i64 1)))⟩,⟨some 10,none,.mv (.t 57)⟩]))))))))) (.seq (.ops [⟨some 58,none,.mv (.t 9)⟩,⟨some 59,none,.mv (.t 10)⟩,⟨some 60,none,.mv (.t 0)⟩,⟨some 61,none,.indexAddr 1 (.t 58) (.t 59)⟩,⟨none,none,.store 1 (.t 61) (.t 60)⟩]) (.seq (.ops [⟨some 62,none,.mv (.t 9)⟩,⟨some 63,none,.mv (.t 10)⟩,⟨some 64,none,.bin .add (.t 63) (.c (.t (.int .i64 1)))⟩,⟨some 65,none,.sliceSl 1 (.t 62) none (some (.t 64))⟩,⟨some 8,none,.mv (.t 65)⟩]) .ret)))))))))))
theorem k_strings_genSplit:comp Tryd.prog 66 (Tryd.f90.body.getD .skip)=some c_strings_genSplit:=by kernel_rfl
set_option maxHeartbeats 8000000 in
theorem strings_genSplit (s0:List UInt8) (c:UInt8) (hs:s0.length≤1099511627776) (σ:Store):ACalls Tryd.prog 90 [.t (.str s0),.t (.str [c]),.t (.int .i64 0),.t (.int .i64 (-1))] σ (Anew 1 ((splitB c s0).map tStr) σ):=by
 refine acalls_of Tryd.func90 (by decide +kernel) (code:=Tryd.f90.body.getD .skip) (n:=66) (c:=c_strings_genSplit) (rs:=[(.tmp 8)]) rfl rfl k_strings_genSplit (by kernel_rfl) (by simp) (fun hσ=>?_)
 have l1:((([c]:List UInt8).length:Nat):Int)=((1:Nat):Int):=rfl
 have d1:(((1:Nat):Int) == 0)=false:=rfl
 have d2:(((1:Nat):Int) == 1)=true:=rfl
 have d3:([c]:List UInt8)[Int.toNat 0]?=some c:=rfl
 have m0:(((-1:Int)) == 0)=false:=rfl
 have m1:(decide ((-1:Int)<0))=true:=rfl
 have m2:(([c]:List UInt8) == [])=false:=rfl
 simp -implicitDefEqProofs only [c_strings_genSplit,m0,m1,m2,cond_t,cond_f,zZ,zA,zB,zC,zD,zE,zG,zH,zI,zJ,zK,if_true,if_false,reduceCtorEq,zW,zX,zY,za,zb]
 refine call_pure (strings_Count s0 c _) ?_
 have hcl:=List.count_le_length (a:=c) (l:=s0)
 have hlen:=splitB_len c s0
 generalize hN:s0.count c=N at hcl hlen ⊢
 have p1:=i64_succ (show N<4611686018427387904 by omega)
 have p2:=i64_succ (show s0.length<4611686018427387904 by omega)
 have p3:(((s0.length+1:Nat):Int)<((N+1:Nat):Int))=False:=by simp; omega
 have p4:((N+1:Nat):Int)≤9223372036854775807:=by omega
 have p5:((16:Nat):Int) * ((N+1:Nat):Int)≤140737488355328:=by omega
 have p6:IntKind.i64.wrap (((N+1:Nat):Int) - 1)=((N:Nat):Int):=by
  rw [show ((N+1:Nat):Int) - 1=((N:Nat):Int) by omega]
  exact IntWalk.i64_in _ (by omega)
 simp -implicitDefEqProofs only [p1,p2,p3,p4,p5,p6,zV,Int.le_refl,cond_t,cond_f,zZ,zA,zB,zC,zD,zE,zG,zH,zI,zJ,zK,if_true,if_false,reduceCtorEq,zW,zX,zY,za,zb]
 refine loop_s [0,10,1,2,3,9] [1,2,3,9] (fun x:Nat × List (List UInt8) × List UInt8=>[(0,.t (.str x.2.2)),(10,.t (.int .i64 (x.1:Nat)))]) (fun x=>σ++[tObj 1 ((x.2.1++List.replicate (N+1 - x.1) []).map tStr)]) (fun x=>x.2.1.length=x.1∧splitB c s0=x.2.1++splitB c x.2.2∧x.2.2.count c+x.1=N∧x.2.2.length≤s0.length) (fun x=>N - x.1) (0,[],s0) (σ.length+1) (by simp) (by omega) ⟨rfl,rfl,hN,Nat.le_refl _⟩ (by simp [tObj,tStr,List.replicate_succ]) rfl ?_
 rintro ⟨i,pre,rest⟩ ⟨hi,hsp,hct,hrl⟩
 simp only at hi hsp hct hrl
 have hol:(pre++List.replicate (N+1 - i) []).length=N+1:=by simp; omega
 have q1:((i:Nat):Int)<((N+1:Nat):Int):=by omega
 have q2:i<N+1:=by omega
 have hr:(pre++List.replicate (N+1 - i) ([]:List UInt8))[i]?=some []:=by
  rw [List.getElem?_append_right (by omega),List.getElem?_replicate,if_pos (by omega)]
 have qi:i+1≤N+1:=by omega
 have pi:=i64_succ (show i<4611686018427387904 by omega)
 simp -implicitDefEqProofs only [keep,zh,hol,tObj,zZ,zA,zB,zC,zD,zE,zG,zH,zI,zJ,zK,if_true,if_false,reduceCtorEq,zW,zX,zY,za,zb]
 refine cond_split (fun h1=>?_) (fun h1=>?_)
 ·simp -implicitDefEqProofs only [zZ,zA,zB,zC,zD,zE,zG,zH,zI,zJ,zK,if_true,if_false,reduceCtorEq,zW,zX,zY,za,zb]
  refine call_pure (strings_Index rest c _) ?_
  simp -implicitDefEqProofs only [zZ,zA,zB,zC,zD,zE,zG,zH,zI,zJ,zK,if_true,if_false,reduceCtorEq,zW,zX,zY,za,zb]
  refine cond_split (fun h2=>?_) (fun h2=>?_)
  ·have h0:=ix_none c rest (by simpa using h2)
   have e0:i=N:=by omega
   have e1:=splitB_none c rest (by omega)
   simp -implicitDefEqProofs only [zh,hol,q1,zm,hr,yA,zV,pi,qi,tStr,zu,zx,zK,Int.toNat_natCast,zZ,zA,zB,zC,zD,zE,zG,zH,zI,zJ,zK,if_true,if_false,reduceCtorEq,zW,zX,zY,za,zb]
   have e2:=rep_set (a:=pre) (b:=[]) (w:=rest) (n:=N+1 - i) (by omega)
   rw [hi,show N+1 - i - 1=0 by omega,List.replicate_zero,List.append_nil,← e1,← hsp] at e2
   refine fin_keep (by simp) ⟨?_,?_⟩
   ·rw [List.length_map,hlen,e0]; rfl
   ·rw [← e2]; simp [tObj,List.map_set]
  ·obtain ⟨m,hm⟩:∃ m:Nat,Lib.indexByte rest c=(m:Nat):=⟨(Lib.indexByte rest c).toNat,by have:¬ Lib.indexByte rest c<0:=(by simpa using h2); omega⟩
   obtain ⟨k1,k2,k3⟩:=ix_some c rest m hm
   have w1:IntKind.i64.wrap ((m:Nat)+0:Int)=(m:Nat):=by rw [Int.add_zero]; exact IntWalk.i64_in _ (by omega)
   have w2:IntKind.i64.wrap ((m:Nat)+((1:Nat):Int))=((m+1:Nat):Int):=i64_succ (show m<4611686018427387904 by omega)
   have w5:rest.take rest.length=rest:=List.take_length
   have e2:=rep_set (a:=pre) (b:=[]) (w:=rest.take m) (n:=N+1 - i) (by omega)
   rw [hi] at e2
   have w3:m≤rest.length:=by omega
   have w4:m+1≤rest.length:=by omega
   rw [hm]
   simp -implicitDefEqProofs only [zh,hol,q1,zm,hr,yA,zV,pi,qi,tStr,zu,zx,zK,Int.toNat_natCast,l1,w1,w2,w3,w4,w5,zd,Int.le_refl,zZ,zA,zB,zC,zD,zE,zG,zH,zI,zJ,zK,if_true,if_false,reduceCtorEq,zW,zX,zY,za,zb]
   refine lk_s0 (i+1,pre++[rest.take m],rest.drop (m+1)) (by simp) (by omega) ?_ (by simp only; omega) ⟨by simp; omega,by rw [hsp,k2]; simp,by simp only; omega,by simp; omega⟩ ?_
   ·simp only [tObj,show N+1 - (i+1)=N+1 - i - 1 by omega,← e2]
    simp [List.map_set]
   ·simp [keep,eget]
 ·have h0:rest.count c=0:=by have:¬ (i:Int)<(N:Nat):=(by simpa using h1); omega
  have e0:i=N:=by omega
  have e1:=splitB_none c rest (by omega)
  simp -implicitDefEqProofs only [zh,hol,q1,zm,hr,yA,zV,pi,qi,tStr,zu,zx,zK,Int.toNat_natCast,zZ,zA,zB,zC,zD,zE,zG,zH,zI,zJ,zK,if_true,if_false,reduceCtorEq,zW,zX,zY,za,zb]
  have e2:=rep_set (a:=pre) (b:=[]) (w:=rest) (n:=N+1 - i) (by omega)
  rw [hi,show N+1 - i - 1=0 by omega,List.replicate_zero,List.append_nil,← e1,← hsp] at e2
  refine fin_keep (by simp) ⟨?_,?_⟩
  ·rw [List.length_map,hlen,e0]; rfl
  ·rw [← e2]; simp [tObj,List.map_set]
def c_strings_Split:C:=(.seq (.ops [⟨some 4,none,.mv (.c .nils)⟩]) (.seq (.ops [⟨some 5,none,.mv (.t 0)⟩,⟨some 6,none,.mv (.t 1)⟩,⟨some 7,none,.call (.c (.fn (.func 90) [])) [.t 5,.t 6,.c (.t (.int .i64 0)),.c (.t (.int .i64 (-1)))]⟩,⟨some 4,none,.mv (.t 7)⟩]) .ret))
theorem k_strings_Split:comp Tryd.prog 8 (Tryd.f72.body.getD .skip)=some c_strings_Split:=by kernel_rfl
theorem strings_Split (s0:List UInt8) (c:UInt8) (hs:s0.length≤1099511627776) (σ:Store):ACalls Tryd.prog 72 [.t (.str s0),.t (.str [c])] σ (Anew 1 ((splitB c s0).map tStr) σ):=by
 refine acalls_of Tryd.func72 (by decide +kernel) (code:=Tryd.f72.body.getD .skip) (n:=8) (c:=c_strings_Split) (rs:=[(.tmp 4)]) rfl rfl k_strings_Split (by kernel_rfl) (by simp) (fun hσ=>?_)
 simp -implicitDefEqProofs only [c_strings_Split,zZ,zA,zB,zC,zD,zE,zG,zH,zI,zJ,zK,if_true,if_false,reduceCtorEq,zW,zX,zY,za,zb]
 refine call_by (strings_genSplit s0 c hs _) ?_
 rintro r σ' ⟨rfl,rfl⟩
 simp -implicitDefEqProofs only [zZ,zA,zB,zC,zD,zE,zG,zH,zI,zJ,zK,if_true,if_false,reduceCtorEq,zW,zX,zY,za,zb]
 exact fin_keep (by simp) ⟨rfl,rfl⟩
end Go.Proofs.YtnnnemgbgilfaaaDoor.W
