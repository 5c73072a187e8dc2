/- The order of words, lines and blocks. Conditions: none. -/
/- The order of lines and blocks. Conditions: none. -/
import Derived.Test.YtnnnemgbgilfaaaDoorSheetFits3
set_option linter.unusedSimpArgs false
set_option linter.unusedVariables false
set_option linter.defProp false
open Bool renaming and_eq_true → yB
open Go.Ab renaming eget → zC, env0 → zD, isNilP → zI, isNilS → zJ, lenSl → zH, lenStr → zG, nat_nn → zV, opv → zA, opvs → zB, putAt → zK, setD → zE
open List renaming getElem?_map → zm, length_map → zh, map_cons → zu, map_nil → zx
open Nat renaming reduceAdd → zb, reduceEqDiff → zX, reduceLeDiff → zW, reduceMul → za, reduceSub → zY, zero_le → zd
open Option renaming map_some → yA
section
open Go Go.Ab
set_option maxHeartbeats 2000000
namespace Go.Proofs.YtnnnemgbgilfaaaDoor.W
theorem less_irr:∀ a:List UInt8,Op.bytesLess a a=false
 | []=>rfl
 | x::a=>by simp [Op.bytesLess,less_irr a]
theorem less_asym:∀ {a b:List UInt8},Op.bytesLess a b=true→Op.bytesLess b a=false
 | [],b,h=>by cases b <;> simp_all [Op.bytesLess]
 | x::a,[],h=>by simp [Op.bytesLess] at h
 | x::a,y::b,h=>by
  simp only [Op.bytesLess,Bool.or_eq_true,yB,decide_eq_true_eq,beq_iff_eq] at h
  simp only [Op.bytesLess,Bool.or_eq_false_iff,Bool.and_eq_false_iff,decide_eq_false_iff_not,beq_eq_false_iff_ne]
  rcases h with h | ⟨rfl,h⟩
  ·refine ⟨fun h'=>?_,.inl fun e=>?_⟩
   ·exact absurd (UInt8.lt_trans h h') (UInt8.lt_irrefl _)
   ·subst e; exact UInt8.lt_irrefl _ h
  ·exact ⟨UInt8.lt_irrefl _,.inr (less_asym h)⟩
theorem less_tri:∀ a b:List UInt8,Op.bytesLess a b=true∨a=b∨Op.bytesLess b a=true
 | [],[]=>.inr (.inl rfl)
 | [],_::_=>.inl rfl
 | _::_,[]=>.inr (.inr rfl)
 | x::a,y::b=>by
  simp only [Op.bytesLess,Bool.or_eq_true,yB,decide_eq_true_eq,beq_iff_eq,List.cons.injEq]
  rcases less_tri a b with h | rfl | h
  ·rcases Nat.lt_trichotomy x.toNat y.toNat with g | g | g
   ·exact .inl (.inl g)
   ·exact .inl (.inr ⟨UInt8.toNat_inj.1 g,h⟩)
   ·exact .inr (.inr (.inl g))
  ·rcases Nat.lt_trichotomy x.toNat y.toNat with g | g | g
   ·exact .inl (.inl g)
   ·exact .inr (.inl ⟨UInt8.toNat_inj.1 g,rfl⟩)
   ·exact .inr (.inr (.inl g))
  ·rcases Nat.lt_trichotomy x.toNat y.toNat with g | g | g
   ·exact .inl (.inl g)
   ·exact .inr (.inr (.inr ⟨(UInt8.toNat_inj.1 g).symm,h⟩))
   ·exact .inr (.inr (.inl g))
theorem cmpB_eq:∀ a b:List UInt8,Lib.compareBytes a b=if Op.bytesLess a b=true then -1 else if Op.bytesLess b a=true then 1 else 0
 | [],[]=>rfl
 | [],_::_=>rfl
 | _::_,[]=>rfl
 | x::a,y::b=>by
  have ih:=cmpB_eq a b
  simp only [Lib.compareBytes,Op.bytesLess,Bool.or_eq_true,yB,decide_eq_true_eq,beq_iff_eq]
  by_cases h1:x<y
  ·simp [h1]
  ·by_cases h2:y<x
   ·have:¬ x=y:=fun e=>by subst e; exact UInt8.lt_irrefl _ h2
    simp [h1,h2,this]
   ·obtain rfl:x=y:=by
     rcases Nat.lt_trichotomy x.toNat y.toNat with g | g | g
     ·exact absurd g h1
     ·exact UInt8.toNat_inj.1 g
     ·exact absurd g h2
    simp [ih]
theorem cmpB_lt (a b:List UInt8):decide (Lib.compareBytes a b<0)=Op.bytesLess a b:=by
 rw [cmpB_eq]
 by_cases h:Op.bytesLess a b=true
 ·simp [h]
 ·rw [if_neg h]
  have:Op.bytesLess a b=false:=by simpa using h
  rw [this]
  split <;> decide
theorem cmpB_zero (a b:List UInt8):Lib.compareBytes a b=0↔a=b:=by
 rw [cmpB_eq]
 rcases less_tri a b with h | rfl | h
 ·rw [if_pos h]
  exact ⟨fun e=>by omega,fun e=>by subst e; rw [less_irr] at h; cases h⟩
 ·simp [less_irr]
 ·rw [if_neg (by rw [less_asym h]; simp),if_pos h]
  exact ⟨fun e=>by omega,fun e=>by subst e; rw [less_irr] at h; cases h⟩
theorem cmpB_bnd (a b:List UInt8):-1≤Lib.compareBytes a b∧Lib.compareBytes a b≤1:=by
 rw [cmpB_eq]
 split
 ·omega
 ·split <;> omega
def wcmp:List (List UInt8)→List (List UInt8)→Int
 | [],[]=>0
 | [],_::_=>-1
 | _::_,[]=>1
 | x::a,y::b=>if Lib.compareBytes x y=0 then wcmp a b else Lib.compareBytes x y
def wless:List (List UInt8)→List (List UInt8)→Bool
 | [],[]=>false
 | [],_::_=>true
 | _::_,[]=>false
 | x::a,y::b=>if x == y then wless a b else Op.bytesLess x y
theorem wless_eq:∀ a b,wless a b=decide (wcmp a b<0)
 | [],[]=>rfl
 | [],_::_=>rfl
 | _::_,[]=>rfl
 | x::a,y::b=>by
  have ih:=wless_eq a b
  by_cases h:x=y
  ·subst h
   have e1:wcmp (x::a) (x::b)=wcmp a b:=by rw [wcmp,if_pos ((cmpB_zero x x).2 rfl)]
   rw [e1,wless,if_pos (by simp),ih]
  ·have e1:wcmp (x::a) (y::b)=Lib.compareBytes x y:=by rw [wcmp,if_neg (fun e=>h ((cmpB_zero x y).1 e))]
   rw [e1,wless,if_neg (by simpa using h),cmpB_lt]
theorem wcmp_bnd:∀ a b,-1≤wcmp a b∧wcmp a b≤1
 | [],[]=>by simp [wcmp]
 | [],_::_=>by simp [wcmp]
 | _::_,[]=>by simp [wcmp]
 | x::a,y::b=>by
  have ih:=wcmp_bnd a b
  have h2:=cmpB_bnd x y
  simp only [wcmp]
  split <;> assumption
theorem wcmp_zero:∀ a b,wcmp a b=0↔a=b
 | [],[]=>by simp [wcmp]
 | [],_::_=>by simp [wcmp]
 | _::_,[]=>by simp [wcmp]
 | x::a,y::b=>by
  simp only [wcmp]
  have ih:=wcmp_zero a b
  have h2:=cmpB_zero x y
  split
  ·rename_i h
   rw [ih,List.cons.injEq,← h2]
   simp [h]
  ·rename_i h
   rw [List.cons.injEq,← h2]
   simp [h]
theorem x_cmp (hb:True) (a b:List UInt8):XCalls Tryd.prog 105 [.t (.str a),.t (.str b)] (.t (.int .i64 (Lib.compareBytes a b))):=by
 refine ext_calls Tryd.func105 (by kernel_rfl) (by kernel_rfl) (by kernel_rfl) (e:=Extern.BytealgCompare.compare) (by kernel_rfl) fun x cargs ha=>?_
 simp only [VsRel,VRel,TRel] at ha
 obtain ⟨_,_,rfl,rfl,_,_,rfl,rfl,rfl⟩:=ha
 exact ⟨_,Lib.run_compareString _ _ _,by simp only [VRel,TRel]⟩
def c_internal_bytealg_CompareString:C:=(.seq (.ops [⟨some 4,none,.mv (.c (.t (.int .i64 0)))⟩]) (.seq (.ops [⟨some 5,none,.mv (.t 0)⟩,⟨some 6,none,.mv (.t 1)⟩,⟨some 7,none,.call (.c (.fn (.func 105) [])) [.t 5,.t 6]⟩,⟨some 4,none,.mv (.t 7)⟩]) .ret))
theorem k_internal_bytealg_CompareString:comp Tryd.prog 8 (Tryd.f89.body.getD .skip)=some c_internal_bytealg_CompareString:=by kernel_rfl
theorem internal_bytealg_CompareString (a b:List UInt8)  (σ:Store):ACalls Tryd.prog 89 [.t (.str (a)),.t (.str (b))] σ fun rr σ'=>rr=.t (.int .i64 (Lib.compareBytes a b))∧σ'=σ:=by
 refine acalls_of Tryd.func89 (by decide +kernel) (code:=Tryd.f89.body.getD .skip) (n:=8) (c:=c_internal_bytealg_CompareString) (rs:=[(.tmp 4)]) rfl rfl k_internal_bytealg_CompareString (by kernel_rfl) (by simp) (fun hσ=>?_)
 have hh:True:=trivial
 have fin:∀ {u:V} {τ:Store},u=.t (.int .i64 (Lib.compareBytes a b))→u.lt σ.length=true→retV σ.length (fun rr σ'=>rr=.t (.int .i64 (Lib.compareBytes a b))∧σ'=σ) (σ++τ) (some [u]):=fun h h2=>ret_same rfl hσ h2 ⟨h,rfl⟩
 have fin0:∀ {u:V},u=.t (.int .i64 (Lib.compareBytes a b))→retV σ.length (fun rr σ'=>rr=.t (.int .i64 (Lib.compareBytes a b))∧σ'=σ) σ (some [u]):=fun h=>ret_same0 rfl ⟨h,rfl⟩
 simp -implicitDefEqProofs only [c_internal_bytealg_CompareString,zZ,zA,zB,zC,zD,zE,zG,zH,zI,zJ,zK,if_true,if_false,reduceCtorEq,zW,zX,zY,za,zb]
 refine call_ext (x_cmp trivial a b) ?_
 simp -implicitDefEqProofs only [zZ,zA,zB,zC,zD,zE,zG,zH,zI,zJ,zK,if_true,if_false,reduceCtorEq,zW,zX,zY,za,zb]
 exact fin0 rfl
def c_strings_Compare:C:=(.seq (.ops [⟨some 4,none,.mv (.c (.t (.int .i64 0)))⟩]) (.seq (.ops [⟨some 5,none,.mv (.t 0)⟩,⟨some 6,none,.mv (.t 1)⟩,⟨some 7,none,.call (.c (.fn (.func 89) [])) [.t 5,.t 6]⟩,⟨some 4,none,.mv (.t 7)⟩]) .ret))
theorem k_strings_Compare:comp Tryd.prog 8 (Tryd.f71.body.getD .skip)=some c_strings_Compare:=by kernel_rfl
theorem strings_Compare (a b:List UInt8)  (σ:Store):ACalls Tryd.prog 71 [.t (.str (a)),.t (.str (b))] σ fun rr σ'=>rr=.t (.int .i64 (Lib.compareBytes a b))∧σ'=σ:=by
 refine acalls_of Tryd.func71 (by decide +kernel) (code:=Tryd.f71.body.getD .skip) (n:=8) (c:=c_strings_Compare) (rs:=[(.tmp 4)]) rfl rfl k_strings_Compare (by kernel_rfl) (by simp) (fun hσ=>?_)
 have hh:True:=trivial
 have fin:∀ {u:V} {τ:Store},u=.t (.int .i64 (Lib.compareBytes a b))→u.lt σ.length=true→retV σ.length (fun rr σ'=>rr=.t (.int .i64 (Lib.compareBytes a b))∧σ'=σ) (σ++τ) (some [u]):=fun h h2=>ret_same rfl hσ h2 ⟨h,rfl⟩
 have fin0:∀ {u:V},u=.t (.int .i64 (Lib.compareBytes a b))→retV σ.length (fun rr σ'=>rr=.t (.int .i64 (Lib.compareBytes a b))∧σ'=σ) σ (some [u]):=fun h=>ret_same0 rfl ⟨h,rfl⟩
 simp -implicitDefEqProofs only [c_strings_Compare,zZ,zA,zB,zC,zD,zE,zG,zH,zI,zJ,zK,if_true,if_false,reduceCtorEq,zW,zX,zY,za,zb]
 refine call_pure (internal_bytealg_CompareString a b _) ?_
 simp -implicitDefEqProofs only [zZ,zA,zB,zC,zD,zE,zG,zH,zI,zJ,zK,if_true,if_false,reduceCtorEq,zW,zX,zY,za,zb]
 exact fin0 rfl
def c_cmp_isNaN_string_:C:=(.seq (.ops [⟨some 2,none,.mv (.c (.t (.bool false)))⟩]) (.seq (.ops [⟨some 3,none,.mv (.t 0)⟩,⟨some 4,none,.mv (.t 0)⟩,⟨some 5,none,.bin .neq (.t 3) (.t 4)⟩,⟨some 2,none,.mv (.t 5)⟩]) .ret))
theorem k_cmp_isNaN_string_:comp Tryd.prog 6 (Tryd.f114.body.getD .skip)=some c_cmp_isNaN_string_:=by kernel_rfl
theorem cmp_isNaN_string_ (a:List UInt8)  (σ:Store):ACalls Tryd.prog 114 [.t (.str (a))] σ fun rr σ'=>rr=.t (.bool (false))∧σ'=σ:=by
 refine acalls_of Tryd.func114 (by decide +kernel) (code:=Tryd.f114.body.getD .skip) (n:=6) (c:=c_cmp_isNaN_string_) (rs:=[(.tmp 2)]) rfl rfl k_cmp_isNaN_string_ (by kernel_rfl) (by simp) (fun hσ=>?_)
 have hh:True:=trivial
 have fin:∀ {u:V} {τ:Store},u=.t (.bool (false))→u.lt σ.length=true→retV σ.length (fun rr σ'=>rr=.t (.bool (false))∧σ'=σ) (σ++τ) (some [u]):=fun h h2=>ret_same rfl hσ h2 ⟨h,rfl⟩
 have fin0:∀ {u:V},u=.t (.bool (false))→retV σ.length (fun rr σ'=>rr=.t (.bool (false))∧σ'=σ) σ (some [u]):=fun h=>ret_same0 rfl ⟨h,rfl⟩
 simp -implicitDefEqProofs only [c_cmp_isNaN_string_,ne_self,zZ,zA,zB,zC,zD,zE,zG,zH,zI,zJ,zK,if_true,if_false,reduceCtorEq,zW,zX,zY,za,zb]
 exact fin0 (by simp)
def c_cmp_Compare_string_:C:=(.seq (.ops [⟨some 4,none,.mv (.c (.t (.int .i64 0)))⟩]) (.seq (.ops [⟨some 7,none,.mv (.t 0)⟩,⟨some 8,none,.call (.c (.fn (.func 114) [])) [.t 7]⟩,⟨some 5,none,.mv (.t 8)⟩]) (.seq (.ops [⟨some 9,none,.mv (.t 1)⟩,⟨some 10,none,.call (.c (.fn (.func 114) [])) [.t 9]⟩,⟨some 6,none,.mv (.t 10)⟩]) (.seq (.seq (.ops [⟨some 11,none,.mv (.t 5)⟩]) (.cond (.t 11) (.seq (.seq (.ops [⟨some 12,none,.mv (.t 6)⟩]) (.cond (.t 12) (.seq (.ops [⟨some 4,none,.mv (.c (.t (.int .i64 0)))⟩]) .ret) .skip)) (.seq (.ops [⟨some 4,none,.mv (.c (.t (.int .i64 (-1))))⟩]) .ret)) .skip)) (.seq (.seq (.ops [⟨some 13,none,.mv (.t 6)⟩]) (.cond (.t 13) (.seq (.ops [⟨some 4,none,.mv (.c (.t (.int .i64 1)))⟩]) .ret) .skip)) (.seq (.seq (.ops [⟨some 14,none,.mv (.t 0)⟩,⟨some 15,none,.mv (.t 1)⟩,⟨some 16,none,.bin .lss (.t 14) (.t 15)⟩]) (.cond (.t 16) (.seq (.ops [⟨some 4,none,.mv (.c (.t (.int .i64 (-1))))⟩]) .ret) .skip)) (.seq (.seq (.ops [⟨some 17,none,.mv (.t 0)⟩,⟨some 18,none,.mv (.t 1)⟩,⟨some 19,none,.bin .gtr (.t 17) (.t 18)⟩]) (.cond (.t 19) (.seq (.ops [⟨some 4,none,.mv (.c (.t (.int .i64 1)))⟩]) .ret) .skip)) (.seq (.ops [⟨some 4,none,.mv (.c (.t (.int .i64 0)))⟩]) .ret))))))))
theorem k_cmp_Compare_string_:comp Tryd.prog 20 (Tryd.f104.body.getD .skip)=some c_cmp_Compare_string_:=by kernel_rfl
theorem cmp_Compare_string_ (a b:List UInt8)  (σ:Store):ACalls Tryd.prog 104 [.t (.str (a)),.t (.str (b))] σ fun rr σ'=>rr=.t (.int .i64 (Lib.compareBytes a b))∧σ'=σ:=by
 refine acalls_of Tryd.func104 (by decide +kernel) (code:=Tryd.f104.body.getD .skip) (n:=20) (c:=c_cmp_Compare_string_) (rs:=[(.tmp 4)]) rfl rfl k_cmp_Compare_string_ (by kernel_rfl) (by simp) (fun hσ=>?_)
 have hh:True:=trivial
 have fin:∀ {u:V} {τ:Store},u=.t (.int .i64 (Lib.compareBytes a b))→u.lt σ.length=true→retV σ.length (fun rr σ'=>rr=.t (.int .i64 (Lib.compareBytes a b))∧σ'=σ) (σ++τ) (some [u]):=fun h h2=>ret_same rfl hσ h2 ⟨h,rfl⟩
 have fin0:∀ {u:V},u=.t (.int .i64 (Lib.compareBytes a b))→retV σ.length (fun rr σ'=>rr=.t (.int .i64 (Lib.compareBytes a b))∧σ'=σ) σ (some [u]):=fun h=>ret_same0 rfl ⟨h,rfl⟩
 simp -implicitDefEqProofs only [c_cmp_Compare_string_,zZ,zA,zB,zC,zD,zE,zG,zH,zI,zJ,zK,if_true,if_false,reduceCtorEq,zW,zX,zY,za,zb]
 refine call_pure (cmp_isNaN_string_ a _) ?_
 simp -implicitDefEqProofs only [zZ,zA,zB,zC,zD,zE,zG,zH,zI,zJ,zK,if_true,if_false,reduceCtorEq,zW,zX,zY,za,zb]
 refine call_pure (cmp_isNaN_string_ b _) ?_
 simp -implicitDefEqProofs only [cond_t,cond_f,zZ,zA,zB,zC,zD,zE,zG,zH,zI,zJ,zK,if_true,if_false,reduceCtorEq,zW,zX,zY,za,zb]
 repeat' (first
  | ((with_reducible refine cond_known (fun h=>?_) (fun h=>?_)) <;> (replace hh:=And.intro h hh; clear h; simp -implicitDefEqProofs only [hh,cond_t,cond_f,zZ,zA,zB,zC,zD,zE,zG,zH,zI,zJ,zK,if_true,if_false,reduceCtorEq,zW,zX,zY,za,zb]))
  | (first | ((with_reducible refine fin0 ?_); refine ti ?_; (try simp only [Known] at hh); rw [cmpB_eq]; have h1:=less_tri a b; have h2:=@less_asym a b; grind) | ((with_reducible refine fin ?_ ?_); rotate_left; exact rfl; refine ti ?_; (try simp only [Known] at hh); rw [cmpB_eq]; have h1:=less_tri a b; have h2:=@less_asym a b; grind)))
def c_slices_Compare___string_string_:C:=(.seq (.ops [⟨some 4,none,.mv (.c (.t (.int .i64 0)))⟩]) (.seq (.seq (.ops [⟨some 9,none,.mv (.t 0)⟩,⟨some 10,none,.len false (.t 9)⟩,⟨some 11,none,.mv (.c (.t (.int .i64 0)))⟩]) (.block 0 (.loop (.seq (.ops [⟨some 12,none,.bin .lss (.t 11) (.t 10)⟩]) (.seq (.cond (.t 12) .skip (.exit 0)) (.seq (.block 1 (.seq (.ops [⟨some 13,none,.mv (.t 11)⟩,⟨some 14,none,.indexAddr 1 (.t 9) (.t 11)⟩,⟨some 15,none,.load none (.t 14)⟩,⟨some 5,none,.mv (.t 13)⟩,⟨some 6,none,.mv (.t 15)⟩]) (.seq (.seq (.ops [⟨some 16,none,.mv (.t 5)⟩,⟨some 17,none,.mv (.t 1)⟩,⟨some 18,none,.len false (.t 17)⟩,⟨some 19,none,.bin .geq (.t 16) (.t 18)⟩]) (.cond (.t 19) (.seq (.ops [⟨some 4,none,.mv (.c (.t (.int .i64 1)))⟩]) .ret) .skip)) (.seq (.ops [⟨some 20,none,.mv (.t 1)⟩,⟨some 21,none,.mv (.t 5)⟩,⟨some 22,none,.indexAddr 1 (.t 20) (.t 21)⟩,⟨some 23,none,.load none (.t 22)⟩,⟨some 7,none,.mv (.t 23)⟩]) (.seq (.ops [⟨some 24,none,.mv (.t 6)⟩,⟨some 25,none,.mv (.t 7)⟩,⟨some 26,none,.call (.c (.fn (.func 104) [])) [.t 24,.t 25]⟩,⟨some 8,none,.mv (.t 26)⟩]) (.seq (.ops [⟨some 27,none,.mv (.t 8)⟩,⟨some 28,none,.bin .neq (.t 27) (.c (.t (.int .i64 0)))⟩]) (.cond (.t 28) (.seq (.ops [⟨some 29,none,.mv (.t 8)⟩,⟨some 4,none,.mv (.t 29)⟩]) .ret) .skip))))))) (.ops [⟨some 30,none,.bin .add (.t 11) (.c (.t (.int .i64 1)))⟩,⟨some 11,none,.mv (.t 30)⟩]))))))) (.seq (.seq (.ops [⟨some 31,none,.mv (.t 0)⟩,⟨some 32,none,.len false (.t 31)⟩,⟨some 33,none,.mv (.t 1)⟩,⟨some 34,none,.len false (.t 33)⟩,⟨some 35,none,.bin .lss (.t 32) (.t 34)⟩]) (.cond (.t 35) (.seq (.ops [⟨some 4,none,.mv (.c (.t (.int .i64 (-1))))⟩]) .ret) .skip)) (.seq (.ops [⟨some 4,none,.mv (.c (.t (.int .i64 0)))⟩]) .ret))))
theorem k_slices_Compare___string_string_:comp Tryd.prog 36 (Tryd.f88.body.getD .skip)=some c_slices_Compare___string_string_:=by kernel_rfl
theorem slices_Compare___string_string_ (a b:List (List UInt8)) (ha:StrsOk a) (hb:StrsOk b)  (σ:Store):ACalls Tryd.prog 88 [.t (tStrs a),.t (tStrs b)] σ fun rr σ'=>rr=.t (.int .i64 (wcmp a b))∧σ'=σ:=by
 refine acalls_of Tryd.func88 (by decide +kernel) (code:=Tryd.f88.body.getD .skip) (n:=36) (c:=c_slices_Compare___string_string_) (rs:=[(.tmp 4)]) rfl rfl k_slices_Compare___string_string_ (by kernel_rfl) (by simp) (fun hσ=>?_)
 have hh:True:=trivial
 have fin:∀ {u:V} {τ:Store},u=.t (.int .i64 (wcmp a b))→u.lt σ.length=true→retV σ.length (fun rr σ'=>rr=.t (.int .i64 (wcmp a b))∧σ'=σ) (σ++τ) (some [u]):=fun h h2=>ret_same rfl hσ h2 ⟨h,rfl⟩
 have fin0:∀ {u:V},u=.t (.int .i64 (wcmp a b))→retV σ.length (fun rr σ'=>rr=.t (.int .i64 (wcmp a b))∧σ'=σ) σ (some [u]):=fun h=>ret_same0 rfl ⟨h,rfl⟩
 have y1:=ha.1
 have y2:=hb.1
 simp -implicitDefEqProofs only [c_slices_Compare___string_string_,zh,zZ,zA,zB,zC,zD,zE,zG,zH,zI,zJ,zK,if_true,if_false,reduceCtorEq,zW,zX,zY,za,zb]
 refine loop_p [11,0,1,9,10] [0,1,9,10] (fun k:Nat=>[(11,.t (.int .i64 (k:Nat)))]) (fun k=>k≤a.length∧k≤b.length∧wcmp (a.drop k) (b.drop k)=wcmp a b) (fun k=>a.length - k) 0 (by simp) ⟨Nat.zero_le _,Nat.zero_le _,rfl⟩ rfl ?_
 rintro k ⟨hk,hkb,hall⟩
 simp -implicitDefEqProofs only [keep,zh,zZ,zA,zB,zC,zD,zE,zG,zH,zI,zJ,zK,if_true,if_false,reduceCtorEq,zW,zX,zY,za,zb]
 refine cond_split (fun h1=>?_) (fun h1=>?_)
 ·obtain ⟨x,hx,hlt⟩:=at_of h1
  have hd:=drop_of hx
  have more:=i64_succ (show k<4611686018427387904 by omega)
  simp -implicitDefEqProofs only [hx,zV,zd,zm,yA,zh,tStr,zu,zx,more,zZ,zA,zB,zC,zD,zE,zG,zH,zI,zJ,zK,if_true,if_false,reduceCtorEq,zW,zX,zY,za,zb]
  refine cond_split (fun h2=>?_) (fun h2=>?_)
  ·have hkk:k=b.length:=by have:(b.length:Int)≤k:=(by simpa using h2); omega
   rw [hd,List.drop_of_length_le (show b.length≤k by omega)] at hall
   simp -implicitDefEqProofs only [zZ,zA,zB,zC,zD,zE,zG,zH,zI,zJ,zK,if_true,if_false,reduceCtorEq,zW,zX,zY,za,zb]
   exact fin0 (by rw [← hall]; rfl)
  ·have hlb:k<b.length:=by
    have:¬ (b.length:Int)≤k:=by simpa using h2
    omega
   obtain ⟨y,hy⟩:∃ y,b[k]?=some y:=⟨b[k]'hlb,List.getElem?_eq_getElem hlb⟩
   have hdb:=drop_of hy
   rw [hd,hdb] at hall
   simp -implicitDefEqProofs only [hx,hy,zV,zd,zm,yA,zh,tStr,zu,zx,more,zZ,zA,zB,zC,zD,zE,zG,zH,zI,zJ,zK,if_true,if_false,reduceCtorEq,zW,zX,zY,za,zb]
   refine call_pure (cmp_Compare_string_ x y _) ?_
   simp -implicitDefEqProofs only [zZ,zA,zB,zC,zD,zE,zG,zH,zI,zJ,zK,if_true,if_false,reduceCtorEq,zW,zX,zY,za,zb]
   refine cond_split (fun h3=>?_) (fun h3=>?_)
   ·have hz:¬ Lib.compareBytes x y=0:=by simpa using h3
    rw [wcmp,if_neg hz] at hall
    simp -implicitDefEqProofs only [zZ,zA,zB,zC,zD,zE,zG,zH,zI,zJ,zK,if_true,if_false,reduceCtorEq,zW,zX,zY,za,zb]
    exact fin0 (by rw [← hall])
   ·have hz:Lib.compareBytes x y=0:=by simpa using h3
    rw [wcmp,if_pos hz] at hall
    simp -implicitDefEqProofs only [more,zZ,zA,zB,zC,zD,zE,zG,zH,zI,zJ,zK,if_true,if_false,reduceCtorEq,zW,zX,zY,za,zb]
    first | exact lk_p0 (k+1) (by simp) (by simp) (by omega) ⟨by omega,by omega,hall⟩ rfl | exact lk_p (k+1) (by simp) (by simp) hσ rfl (by omega) ⟨by omega,by omega,hall⟩ rfl rfl | exact lk_pm (k+1) (Nat.le_refl _) (by simp) hσ rfl rfl (by omega) ⟨by omega,by omega,hall⟩ (by simp [ltE,keep,eget,V.lt]) rfl
 ·have hkk:=end_of h1 hk
  rw [hkk,List.drop_length] at hall
  simp -implicitDefEqProofs only [zZ,zA,zB,zC,zD,zE,zG,zH,zI,zJ,zK,if_true,if_false,reduceCtorEq,zW,zX,zY,za,zb]
  refine cond_split (fun h3=>?_) (fun h3=>?_)
  ·have hl:a.length<b.length:=by simpa using h3
   obtain ⟨y,l,hyl⟩:∃ y l,b.drop a.length=y::l:=by
    match hb':b.drop a.length with
    | []=>have:=congrArg List.length hb'; simp at this; omega
    | y::l=>exact ⟨y,l,rfl⟩
   rw [hyl] at hall
   simp -implicitDefEqProofs only [zZ,zA,zB,zC,zD,zE,zG,zH,zI,zJ,zK,if_true,if_false,reduceCtorEq,zW,zX,zY,za,zb]
   exact fin0 (by rw [← hall]; rfl)
  ·have hl:¬ a.length<b.length:=by simpa using h3
   rw [List.drop_of_length_le (by omega)] at hall
   simp -implicitDefEqProofs only [zZ,zA,zB,zC,zD,zE,zG,zH,zI,zJ,zK,if_true,if_false,reduceCtorEq,zW,zX,zY,za,zb]
   exact fin0 (by rw [← hall]; rfl)
end Go.Proofs.YtnnnemgbgilfaaaDoor.W
end
section
open Go Go.Ab
set_option maxHeartbeats 2000000
namespace Go.Proofs.YtnnnemgbgilfaaaDoor.W
theorem ix_bnd (kind key:List UInt8):-1≤ruleIx kind key∧ruleIx kind key≤12:=by
 have h:=(rules_small kind).1
 rcases rule_two kind key with ⟨h1,_⟩ | ⟨i,x,h1,h2,_⟩
 ·omega
 ·have:=(List.getElem?_eq_some_iff.1 h1).1
  omega
theorem ruleV4 (x:Option SheetRule):∃ a b c d,ruleV x=[a,b,c,d]∧Go.Ab.one a=true∧Go.Ab.one b=true∧Go.Ab.one c=true∧Go.Ab.one d=true:=by
 cases x with
 | none=>exact ⟨_,_,_,_,rfl,rfl,rfl,rfl,rfl⟩
 | some x=>exact ⟨_,_,_,_,rfl,rfl,rfl,rfl,rfl⟩
def orderI (kind:List UInt8) (a b:SheetLine):Int:=if ruleIx kind a.Key=ruleIx kind b.Key then wcmp a.Words b.Words else ruleIx kind a.Key - ruleIx kind b.Key
def lineLess (kind:List UInt8) (a b:SheetLine):Bool:=decide (ruleIx kind a.Key<ruleIx kind b.Key) || (ruleIx kind a.Key == ruleIx kind b.Key && wless a.Words b.Words)
theorem order_ge (kind:List UInt8) (a b:SheetLine):decide (orderI kind a b ≥ 0)=!lineLess kind a b:=by
 unfold orderI lineLess
 by_cases h:ruleIx kind a.Key=ruleIx kind b.Key
 ·rw [if_pos h,h,wless_eq]
  have:=wcmp_bnd a.Words b.Words
  by_cases h2:wcmp a.Words b.Words<0
  ·rw [decide_eq_true h2,decide_eq_false (by omega)]; simp
  ·rw [decide_eq_false h2,decide_eq_true (by omega)]; simp
 ·rw [if_neg h]
  have e:(ruleIx kind a.Key == ruleIx kind b.Key)=false:=by simp [h]
  rw [e,Bool.false_and,Bool.or_false]
  by_cases h2:ruleIx kind a.Key<ruleIx kind b.Key
  ·rw [decide_eq_true h2,decide_eq_false (by omega)]; rfl
  ·rw [decide_eq_false h2,decide_eq_true (by omega)]; rfl
def cmp2 (a b:SheetBlock):Int:=if Lib.compareBytes a.Kind b.Kind=0 then Lib.compareBytes a.Name b.Name else Lib.compareBytes a.Kind b.Kind
def ahead (a b:SheetBlock):Bool:=Op.bytesLess a.Kind b.Kind || (a.Kind == b.Kind && Op.bytesLess a.Name b.Name)
theorem cmp2_ge (a b:SheetBlock):decide (cmp2 a b ≥ 0)=!ahead a b:=by
 unfold cmp2 ahead
 by_cases h:a.Kind=b.Kind
 ·rw [if_pos ((cmpB_zero _ _).2 h),h,less_irr,Bool.false_or,← cmpB_lt a.Name b.Name]
  by_cases h2:Lib.compareBytes a.Name b.Name<0
  ·rw [decide_eq_true h2,decide_eq_false (by omega)]; simp
  ·rw [decide_eq_false h2,decide_eq_true (by omega)]; simp
 ·rw [if_neg (fun e=>h ((cmpB_zero _ _).1 e)),← cmpB_lt a.Kind b.Kind]
  have e:(a.Kind == b.Kind)=false:=by simp [h]
  rw [e,Bool.false_and,Bool.or_false]
  by_cases h2:Lib.compareBytes a.Kind b.Kind<0
  ·rw [decide_eq_true h2,decide_eq_false (by omega)]; simp
  ·rw [decide_eq_false h2,decide_eq_true (by omega)]; simp
def c_spec_l39Less:C:=(.seq (.ops [⟨some 4,none,.mv (.c (.t (.bool false)))⟩]) (.seq (.seq (.ops [⟨some 5,none,.mv (.c (.t (.int .i64 0)))⟩]) (.block 0 (.loop (.seq (.seq (.ops [⟨some 6,none,.mv (.t 5)⟩,⟨some 7,none,.mv (.t 0)⟩,⟨some 8,none,.len false (.t 7)⟩,⟨some 9,none,.bin .lss (.t 6) (.t 8)⟩,⟨some 10,none,.mv (.t 9)⟩,⟨some 11,some ⟨10,true⟩,.mv (.t 5)⟩,⟨some 12,some ⟨10,true⟩,.mv (.t 1)⟩,⟨some 13,some ⟨10,true⟩,.len false (.t 12)⟩,⟨some 14,some ⟨10,true⟩,.bin .lss (.t 11) (.t 13)⟩,⟨some 15,none,.pick (.t 10) (.t 14) (.c (.t (.bool false)))⟩]) (.cond (.t 15) .skip (.exit 0))) (.seq (.block 1 (.seq (.drawn [.mk 0 false ⟨some 18,none,.mv (.t 0)⟩ [],.mk 1 false ⟨some 19,none,.mv (.t 5)⟩ [],.mk 2 false ⟨some 20,none,.indexAddr 1 (.t 18) (.t 19)⟩ [],.mk 3 false ⟨some 21,none,.load none (.t 20)⟩ [],.mk 4 false ⟨some 22,none,.mv (.t 1)⟩ [],.mk 5 false ⟨some 23,none,.mv (.t 5)⟩ [],.mk 6 false ⟨some 24,none,.indexAddr 1 (.t 22) (.t 23)⟩ [],.mk 7 false ⟨some 25,none,.load none (.t 24)⟩ [],.mk 8 false ⟨some 26,none,.bin .neq (.t 21) (.t 25)⟩ []]) (.cond (.t 26) (.seq (.drawn [.mk 0 false ⟨some 27,none,.mv (.t 0)⟩ [],.mk 1 false ⟨some 28,none,.mv (.t 5)⟩ [],.mk 2 false ⟨some 29,none,.indexAddr 1 (.t 27) (.t 28)⟩ [],.mk 3 false ⟨some 30,none,.load none (.t 29)⟩ [],.mk 4 false ⟨some 31,none,.mv (.t 1)⟩ [],.mk 5 false ⟨some 32,none,.mv (.t 5)⟩ [],.mk 6 false ⟨some 33,none,.indexAddr 1 (.t 31) (.t 32)⟩ [],.mk 7 false ⟨some 34,none,.load none (.t 33)⟩ [],.mk 8 false ⟨some 35,none,.bin .lss (.t 30) (.t 34)⟩ [],.mk 9 false ⟨some 4,none,.mv (.t 35)⟩ []]) .ret) .skip))) (.ops [⟨some 16,none,.mv (.t 5)⟩,⟨some 17,none,.bin .add (.t 16) (.c (.t (.int .i64 1)))⟩,⟨some 5,none,.mv (.t 17)⟩])))))) (.seq (.ops [⟨some 36,none,.mv (.t 0)⟩,⟨some 37,none,.len false (.t 36)⟩,⟨some 38,none,.mv (.t 1)⟩,⟨some 39,none,.len false (.t 38)⟩,⟨some 40,none,.bin .lss (.t 37) (.t 39)⟩,⟨some 4,none,.mv (.t 40)⟩]) .ret)))
theorem k_spec_l39Less:comp Tryd.prog 41 (Tryd.f65.body.getD .skip)=some c_spec_l39Less:=by kernel_rfl
theorem spec_l39Less (a b:List (List UInt8)) (ha:StrsOk a) (hb:StrsOk b)  (σ:Store):ACalls Tryd.prog 65 [.t (tStrs a),.t (tStrs b)] σ fun rr σ'=>rr=.t (.bool (wless a b))∧σ'=σ:=by
 refine acalls_of Tryd.func65 (by decide +kernel) (code:=Tryd.f65.body.getD .skip) (n:=41) (c:=c_spec_l39Less) (rs:=[(.tmp 4)]) rfl rfl k_spec_l39Less (by kernel_rfl) (by simp) (fun hσ=>?_)
 have hh:True:=trivial
 have fin:∀ {u:V} {τ:Store},u=.t (.bool (wless a b))→u.lt σ.length=true→retV σ.length (fun rr σ'=>rr=.t (.bool (wless a b))∧σ'=σ) (σ++τ) (some [u]):=fun h h2=>ret_same rfl hσ h2 ⟨h,rfl⟩
 have fin0:∀ {u:V},u=.t (.bool (wless a b))→retV σ.length (fun rr σ'=>rr=.t (.bool (wless a b))∧σ'=σ) σ (some [u]):=fun h=>ret_same0 rfl ⟨h,rfl⟩
 have y1:=ha.1
 have y2:=hb.1
 simp -implicitDefEqProofs only [c_spec_l39Less,zh,zZ,zA,zB,zC,zD,zE,zG,zH,zI,zJ,zK,if_true,if_false,reduceCtorEq,zW,zX,zY,za,zb]
 refine loop_p [5,0,1] [0,1] (fun k:Nat=>[(5,.t (.int .i64 (k:Nat)))]) (fun k=>k≤a.length∧k≤b.length∧wless (a.drop k) (b.drop k)=wless a b) (fun k=>a.length - k) 0 (by simp) ⟨Nat.zero_le _,Nat.zero_le _,rfl⟩ rfl ?_
 rintro k ⟨hk,hkb,hall⟩
 simp -implicitDefEqProofs only [keep,zh,zZ,zA,zB,zC,zD,zE,zG,zH,zI,zJ,zK,if_true,if_false,reduceCtorEq,zW,zX,zY,za,zb]
 have more:=i64_succ (show k<4611686018427387904 by omega)
 by_cases hlt:k<a.length
 ·obtain ⟨x,hx⟩:∃ x,a[k]?=some x:=⟨a[k]'hlt,List.getElem?_eq_getElem hlt⟩
  have d1:decide (((k:Nat):Int)<((a.length:Nat):Int))=true:=by simp; omega
  have l1:((k:Nat):Int)<((a.length:Nat):Int):=by omega
  have hd:=drop_of hx
  by_cases hlb:k<b.length
  ·obtain ⟨y,hy⟩:∃ y,b[k]?=some y:=⟨b[k]'hlb,List.getElem?_eq_getElem hlb⟩
   have d2:decide (((k:Nat):Int)<((b.length:Nat):Int))=true:=by simp; omega
   have l2:((k:Nat):Int)<((b.length:Nat):Int):=by omega
   rw [hd,drop_of hy] at hall
   simp -implicitDefEqProofs only [d1,d2,hx,hy,zV,zd,zm,yA,zh,tStr,zu,zx,more,cond_t,cond_f,zZ,zA,zB,zC,zD,zE,zG,zH,zI,zJ,zK,if_true,if_false,reduceCtorEq,zW,zX,zY,za,zb]
   refine cond_split (fun h3=>?_) (fun h3=>?_)
   ·have hz:(x == y)=false:=by simpa using h3
    rw [wless,if_neg (by rw [hz]; simp)] at hall
    simp -implicitDefEqProofs only [d1,d2,hx,hy,zV,zd,zm,yA,zh,tStr,zu,zx,more,cond_t,cond_f,zZ,zA,zB,zC,zD,zE,zG,zH,zI,zJ,zK,if_true,if_false,reduceCtorEq,zW,zX,zY,za,zb]
    first | exact fin0 (by rw [← hall]) | exact fin (by rw [← hall]) rfl
   ·have hz:(x == y)=true:=by simpa using h3
    rw [wless,if_pos hz] at hall
    simp -implicitDefEqProofs only [more,zZ,zA,zB,zC,zD,zE,zG,zH,zI,zJ,zK,if_true,if_false,reduceCtorEq,zW,zX,zY,za,zb]
    first | exact lk_p0 (k+1) (by simp) (by simp) (by omega) ⟨by omega,by omega,hall⟩ rfl | exact lk_p (k+1) (by simp) (by simp) hσ rfl (by omega) ⟨by omega,by omega,hall⟩ rfl rfl | exact lk_pm (k+1) (Nat.le_refl _) (by simp) hσ rfl rfl (by omega) ⟨by omega,by omega,hall⟩ (by simp [ltE,keep,eget,V.lt]) rfl
  ·have d2:decide (((k:Nat):Int)<((b.length:Nat):Int))=false:=by simp; omega
   have d3:decide (((a.length:Nat):Int)<((b.length:Nat):Int))=false:=by simp; omega
   rw [hd,List.drop_of_length_le (show b.length≤k by omega)] at hall
   simp -implicitDefEqProofs only [d1,d2,d3,hx,zV,zd,zm,yA,zh,tStr,zu,zx,more,cond_t,cond_f,zZ,zA,zB,zC,zD,zE,zG,zH,zI,zJ,zK,if_true,if_false,reduceCtorEq,zW,zX,zY,za,zb]
   first | exact fin0 (by rw [← hall]; rfl) | exact fin (by rw [← hall]; rfl) rfl
 ·have d1:decide (((k:Nat):Int)<((a.length:Nat):Int))=false:=by simp; omega
  rw [List.drop_of_length_le (show a.length≤k by omega)] at hall
  simp -implicitDefEqProofs only [d1,zV,zd,zm,yA,zh,tStr,zu,zx,more,cond_t,cond_f,zZ,zA,zB,zC,zD,zE,zG,zH,zI,zJ,zK,if_true,if_false,reduceCtorEq,zW,zX,zY,za,zb]
  by_cases hlb:k<b.length
  ·have d3:decide (((a.length:Nat):Int)<((b.length:Nat):Int))=true:=by simp; omega
   obtain ⟨y,l,hyl⟩:∃ y l,b.drop k=y::l:=by
    match hb':b.drop k with
    | []=>have:=congrArg List.length hb'; simp at this; omega
    | y::l=>exact ⟨y,l,rfl⟩
   rw [hyl] at hall
   first | exact fin0 (by rw [d3,← hall]; rfl) | exact fin (by rw [d3,← hall]; rfl) rfl
  ·have d3:decide (((a.length:Nat):Int)<((b.length:Nat):Int))=false:=by simp; omega
   rw [List.drop_of_length_le (show b.length≤k by omega)] at hall
   first | exact fin0 (by rw [d3,← hall]; rfl) | exact fin (by rw [d3,← hall]; rfl) rfl
def c_impl_order:C:=(.seq (.ops [⟨some 4,none,.box (.t 1)⟩,⟨some 5,none,.box (.t 2)⟩,⟨some 6,none,.mv (.c (.t (.int .i64 0)))⟩]) (.seq (.ops [⟨some 12,none,.mv (.t 0)⟩,⟨some 13,none,.fieldAddr 0 (.t 4)⟩,⟨some 14,none,.load none (.t 13)⟩,⟨some 15,none,.call (.c (.fn (.func 30) [])) [.t 12,.t 14]⟩,⟨some 11,none,.mv (.t 15)⟩,⟨some 16,none,.extract (.t 11) 0⟩,⟨some 17,none,.extract (.t 11) 1⟩,⟨some 7,none,.new [.t (.str []),.nils,.t (.bool false),.nils]⟩,⟨none,none,.store 4 (.t 7) (.t 16)⟩,⟨some 8,none,.mv (.t 17)⟩]) (.seq (.ops [⟨some 19,none,.mv (.t 0)⟩,⟨some 20,none,.fieldAddr 0 (.t 5)⟩,⟨some 21,none,.load none (.t 20)⟩,⟨some 22,none,.call (.c (.fn (.func 30) [])) [.t 19,.t 21]⟩,⟨some 18,none,.mv (.t 22)⟩,⟨some 23,none,.extract (.t 18) 0⟩,⟨some 24,none,.extract (.t 18) 1⟩,⟨some 9,none,.new [.t (.str []),.nils,.t (.bool false),.nils]⟩,⟨none,none,.store 4 (.t 9) (.t 23)⟩,⟨some 10,none,.mv (.t 24)⟩]) (.seq (.seq (.ops [⟨some 25,none,.mv (.t 8)⟩,⟨some 26,none,.mv (.t 10)⟩,⟨some 27,none,.bin .neq (.t 25) (.t 26)⟩]) (.cond (.t 27) (.seq (.ops [⟨some 28,none,.mv (.t 8)⟩,⟨some 29,none,.mv (.t 10)⟩,⟨some 30,none,.bin .sub (.t 28) (.t 29)⟩,⟨some 6,none,.mv (.t 30)⟩]) .ret) .skip)) (.seq (.ops [⟨some 31,none,.fieldAddr 1 (.t 4)⟩,⟨some 32,none,.load none (.t 31)⟩,⟨some 33,none,.fieldAddr 1 (.t 5)⟩,⟨some 34,none,.load none (.t 33)⟩,⟨some 35,none,.call (.c (.fn (.func 88) [])) [.t 32,.t 34]⟩,⟨some 6,none,.mv (.t 35)⟩]) .ret)))))
theorem k_impl_order:comp Tryd.prog 36 (Tryd.f70.body.getD .skip)=some c_impl_order:=by kernel_rfl
theorem impl_order (kind:List UInt8) (a b:SheetLine) (ha:a.Ok) (hb:b.Ok)  (σ:Store):ACalls Tryd.prog 70 [.t (.str (kind)),.agg (a.vs),.agg (b.vs)] σ fun rr σ'=>rr=.t (.int .i64 (orderI kind a b))∧σ'=σ:=by
 refine acalls_of Tryd.func70 (by decide +kernel) (code:=Tryd.f70.body.getD .skip) (n:=36) (c:=c_impl_order) (rs:=[(.tmp 6)]) rfl rfl k_impl_order (by kernel_rfl) (by simp) (fun hσ=>?_)
 have hh:True:=trivial
 have fin:∀ {u:V} {τ:Store},u=.t (.int .i64 (orderI kind a b))→u.lt σ.length=true→retV σ.length (fun rr σ'=>rr=.t (.int .i64 (orderI kind a b))∧σ'=σ) (σ++τ) (some [u]):=fun h h2=>ret_same rfl hσ h2 ⟨h,rfl⟩
 have fin0:∀ {u:V},u=.t (.int .i64 (orderI kind a b))→retV σ.length (fun rr σ'=>rr=.t (.int .i64 (orderI kind a b))∧σ'=σ) σ (some [u]):=fun h=>ret_same0 rfl ⟨h,rfl⟩
 have i1:=ix_bnd kind a.Key
 have i2:=ix_bnd kind b.Key
 obtain ⟨a1,a2,a3,a4,ea,oa1,oa2,oa3,oa4⟩:=ruleV4 (ruleOf kind a.Key)
 obtain ⟨b1,b2,b3,b4,eb,ob1,ob2,ob3,ob4⟩:=ruleV4 (ruleOf kind b.Key)
 simp -implicitDefEqProofs only [c_impl_order,SheetLine.vs,zZ,zA,zB,zC,zD,zE,zG,zH,zI,zJ,zK,if_true,if_false,reduceCtorEq,zW,zX,zY,za,zb]
 refine call_pure (impl_find kind a.Key _) ?_
 rw [ea]
 simp -implicitDefEqProofs only [oa1,oa2,oa3,oa4,zZ,zA,zB,zC,zD,zE,zG,zH,zI,zJ,zK,if_true,if_false,reduceCtorEq,zW,zX,zY,za,zb]
 refine call_pure (impl_find kind b.Key _) ?_
 rw [eb]
 simp -implicitDefEqProofs only [ob1,ob2,ob3,ob4,zZ,zA,zB,zC,zD,zE,zG,zH,zI,zJ,zK,if_true,if_false,reduceCtorEq,zW,zX,zY,za,zb]
 refine cond_split (fun h=>?_) (fun h=>?_)
 ·have hne:¬ ruleIx kind a.Key=ruleIx kind b.Key:=by simpa using h
  have w1:IntKind.i64.wrap (ruleIx kind a.Key - ruleIx kind b.Key)=ruleIx kind a.Key - ruleIx kind b.Key:=IntWalk.i64_in _ (by omega)
  simp -implicitDefEqProofs only [w1,zZ,zA,zB,zC,zD,zE,zG,zH,zI,zJ,zK,if_true,if_false,reduceCtorEq,zW,zX,zY,za,zb]
  exact fin (by rw [orderI,if_neg hne]) rfl
 ·have he:ruleIx kind a.Key=ruleIx kind b.Key:=by simpa using h
  simp -implicitDefEqProofs only [zZ,zA,zB,zC,zD,zE,zG,zH,zI,zJ,zK,if_true,if_false,reduceCtorEq,zW,zX,zY,za,zb]
  refine call_pure (slices_Compare___string_string_ a.Words b.Words ha.Words hb.Words _) ?_
  simp -implicitDefEqProofs only [zZ,zA,zB,zC,zD,zE,zG,zH,zI,zJ,zK,if_true,if_false,reduceCtorEq,zW,zX,zY,za,zb]
  exact fin (by rw [orderI,if_pos he]) rfl
def c_spec_l39LineLess:C:=(.seq (.ops [⟨some 4,none,.box (.t 1)⟩,⟨some 5,none,.box (.t 2)⟩,⟨some 6,none,.mv (.c (.t (.bool false)))⟩]) (.seq (.ops [⟨some 9,none,.mv (.t 0)⟩,⟨some 10,none,.fieldAddr 0 (.t 4)⟩,⟨some 11,none,.load none (.t 10)⟩,⟨some 12,none,.call (.c (.fn (.func 36) [])) [.t 9,.t 11]⟩,⟨some 7,none,.mv (.t 12)⟩]) (.seq (.ops [⟨some 13,none,.mv (.t 0)⟩,⟨some 14,none,.fieldAddr 0 (.t 5)⟩,⟨some 15,none,.load none (.t 14)⟩,⟨some 16,none,.call (.c (.fn (.func 36) [])) [.t 13,.t 15]⟩,⟨some 8,none,.mv (.t 16)⟩]) (.seq (.ops [⟨some 17,none,.mv (.t 7)⟩,⟨some 18,none,.mv (.t 8)⟩,⟨some 19,none,.bin .lss (.t 17) (.t 18)⟩,⟨some 20,none,.mv (.t 19)⟩,⟨some 21,some ⟨20,false⟩,.mv (.t 7)⟩,⟨some 22,some ⟨20,false⟩,.mv (.t 8)⟩,⟨some 23,some ⟨20,false⟩,.bin .eql (.t 21) (.t 22)⟩,⟨some 24,some ⟨20,false⟩,.mv (.t 23)⟩,⟨some 25,some ⟨24,true⟩,.fieldAddr 1 (.t 4)⟩,⟨some 26,some ⟨24,true⟩,.load none (.t 25)⟩,⟨some 27,some ⟨24,true⟩,.fieldAddr 1 (.t 5)⟩,⟨some 28,some ⟨24,true⟩,.load none (.t 27)⟩,⟨some 29,some ⟨24,true⟩,.call (.c (.fn (.func 65) [])) [.t 26,.t 28]⟩,⟨some 30,some ⟨20,false⟩,.pick (.t 24) (.t 29) (.c (.t (.bool false)))⟩,⟨some 31,none,.pick (.t 20) (.c (.t (.bool true))) (.t 30)⟩,⟨some 6,none,.mv (.t 31)⟩]) .ret))))
theorem k_spec_l39LineLess:comp Tryd.prog 32 (Tryd.f64.body.getD .skip)=some c_spec_l39LineLess:=by kernel_rfl
theorem spec_l39LineLess (kind:List UInt8) (a b:SheetLine) (ha:a.Ok) (hb:b.Ok)  (σ:Store):ACalls Tryd.prog 64 [.t (.str (kind)),.agg (a.vs),.agg (b.vs)] σ fun rr σ'=>rr=.t (.bool (lineLess kind a b))∧σ'=σ:=by
 refine acalls_of Tryd.func64 (by decide +kernel) (code:=Tryd.f64.body.getD .skip) (n:=32) (c:=c_spec_l39LineLess) (rs:=[(.tmp 6)]) rfl rfl k_spec_l39LineLess (by kernel_rfl) (by simp) (fun hσ=>?_)
 have hh:True:=trivial
 have fin:∀ {u:V} {τ:Store},u=.t (.bool (lineLess kind a b))→u.lt σ.length=true→retV σ.length (fun rr σ'=>rr=.t (.bool (lineLess kind a b))∧σ'=σ) (σ++τ) (some [u]):=fun h h2=>ret_same rfl hσ h2 ⟨h,rfl⟩
 have fin0:∀ {u:V},u=.t (.bool (lineLess kind a b))→retV σ.length (fun rr σ'=>rr=.t (.bool (lineLess kind a b))∧σ'=σ) σ (some [u]):=fun h=>ret_same0 rfl ⟨h,rfl⟩
 simp -implicitDefEqProofs only [c_spec_l39LineLess,SheetLine.vs,zZ,zA,zB,zC,zD,zE,zG,zH,zI,zJ,zK,if_true,if_false,reduceCtorEq,zW,zX,zY,za,zb]
 refine call_pure (spec_l38Rule kind a.Key _) ?_
 simp -implicitDefEqProofs only [zZ,zA,zB,zC,zD,zE,zG,zH,zI,zJ,zK,if_true,if_false,reduceCtorEq,zW,zX,zY,za,zb]
 refine call_pure (spec_l38Rule kind b.Key _) ?_
 simp -implicitDefEqProofs only [zZ,zA,zB,zC,zD,zE,zG,zH,zI,zJ,zK,if_true,if_false,reduceCtorEq,zW,zX,zY,za,zb]
 repeat' (first
  | ((with_reducible refine cond_known (fun h=>?_) (fun h=>?_)) <;> (replace hh:=And.intro h hh; clear h; simp -implicitDefEqProofs only [hh,cond_t,cond_f,zZ,zA,zB,zC,zD,zE,zG,zH,zI,zJ,zK,if_true,if_false,reduceCtorEq,zW,zX,zY,za,zb]))
  | ((with_reducible refine call_pure (spec_l39Less a.Words b.Words ha.Words hb.Words _) ?_); simp -implicitDefEqProofs only [hh,cond_t,cond_f,zZ,zA,zB,zC,zD,zE,zG,zH,zI,zJ,zK,if_true,if_false,reduceCtorEq,zW,zX,zY,za,zb])
  | (first | ((with_reducible refine fin0 ?_); refine tb ?_; (try simp only [Known] at hh); unfold lineLess; grind) | ((with_reducible refine fin ?_ ?_); rotate_left; exact rfl; refine tb ?_; (try simp only [Known] at hh); unfold lineLess; grind)))
def c_impl_compare:C:=(.seq (.ops [⟨some 2,none,.box (.t 0)⟩,⟨some 3,none,.box (.t 1)⟩,⟨some 4,none,.mv (.c (.t (.int .i64 0)))⟩]) (.seq (.seq (.ops [⟨some 6,none,.fieldAddr 0 (.t 2)⟩,⟨some 7,none,.load none (.t 6)⟩,⟨some 8,none,.fieldAddr 0 (.t 3)⟩,⟨some 9,none,.load none (.t 8)⟩,⟨some 10,none,.call (.c (.fn (.func 71) [])) [.t 7,.t 9]⟩,⟨some 5,none,.mv (.t 10)⟩]) (.seq (.ops [⟨some 11,none,.mv (.t 5)⟩,⟨some 12,none,.bin .neq (.t 11) (.c (.t (.int .i64 0)))⟩]) (.cond (.t 12) (.seq (.ops [⟨some 13,none,.mv (.t 5)⟩,⟨some 4,none,.mv (.t 13)⟩]) .ret) .skip))) (.seq (.ops [⟨some 14,none,.fieldAddr 1 (.t 2)⟩,⟨some 15,none,.load none (.t 14)⟩,⟨some 16,none,.fieldAddr 1 (.t 3)⟩,⟨some 17,none,.load none (.t 16)⟩,⟨some 18,none,.call (.c (.fn (.func 71) [])) [.t 15,.t 17]⟩,⟨some 4,none,.mv (.t 18)⟩]) .ret)))
theorem k_impl_compare:comp Tryd.prog 19 (Tryd.f42.body.getD .skip)=some c_impl_compare:=by kernel_rfl
theorem impl_compare (a b:SheetBlock) (ha:a.Ok) (hb:b.Ok)  (σ:Store):ACalls Tryd.prog 42 [.agg (a.vs),.agg (b.vs)] σ fun rr σ'=>rr=.t (.int .i64 (cmp2 a b))∧σ'=σ:=by
 refine acalls_of Tryd.func42 (by decide +kernel) (code:=Tryd.f42.body.getD .skip) (n:=19) (c:=c_impl_compare) (rs:=[(.tmp 4)]) rfl rfl k_impl_compare (by kernel_rfl) (by simp) (fun hσ=>?_)
 have hh:True:=trivial
 have fin:∀ {u:V} {τ:Store},u=.t (.int .i64 (cmp2 a b))→u.lt σ.length=true→retV σ.length (fun rr σ'=>rr=.t (.int .i64 (cmp2 a b))∧σ'=σ) (σ++τ) (some [u]):=fun h h2=>ret_same rfl hσ h2 ⟨h,rfl⟩
 have fin0:∀ {u:V},u=.t (.int .i64 (cmp2 a b))→retV σ.length (fun rr σ'=>rr=.t (.int .i64 (cmp2 a b))∧σ'=σ) σ (some [u]):=fun h=>ret_same0 rfl ⟨h,rfl⟩
 simp -implicitDefEqProofs only [c_impl_compare,SheetBlock.vs,zZ,zA,zB,zC,zD,zE,zG,zH,zI,zJ,zK,if_true,if_false,reduceCtorEq,zW,zX,zY,za,zb]
 refine call_pure (strings_Compare a.Kind b.Kind _) ?_
 simp -implicitDefEqProofs only [zZ,zA,zB,zC,zD,zE,zG,zH,zI,zJ,zK,if_true,if_false,reduceCtorEq,zW,zX,zY,za,zb]
 refine cond_split (fun h=>?_) (fun h=>?_)
 ·have hne:¬ Lib.compareBytes a.Kind b.Kind=0:=by simpa using h
  simp -implicitDefEqProofs only [zZ,zA,zB,zC,zD,zE,zG,zH,zI,zJ,zK,if_true,if_false,reduceCtorEq,zW,zX,zY,za,zb]
  exact fin (by rw [cmp2,if_neg hne]) rfl
 ·have he:Lib.compareBytes a.Kind b.Kind=0:=by simpa using h
  simp -implicitDefEqProofs only [zZ,zA,zB,zC,zD,zE,zG,zH,zI,zJ,zK,if_true,if_false,reduceCtorEq,zW,zX,zY,za,zb]
  refine call_pure (strings_Compare a.Name b.Name _) ?_
  simp -implicitDefEqProofs only [zZ,zA,zB,zC,zD,zE,zG,zH,zI,zJ,zK,if_true,if_false,reduceCtorEq,zW,zX,zY,za,zb]
  exact fin (by rw [cmp2,if_pos he]) rfl
def c_spec_l39Ahead:C:=(.seq (.ops [⟨some 2,none,.box (.t 0)⟩,⟨some 3,none,.box (.t 1)⟩,⟨some 4,none,.mv (.c (.t (.bool false)))⟩]) (.seq (.ops [⟨some 5,none,.fieldAddr 0 (.t 2)⟩,⟨some 6,none,.load none (.t 5)⟩,⟨some 7,none,.fieldAddr 0 (.t 3)⟩,⟨some 8,none,.load none (.t 7)⟩,⟨some 9,none,.bin .lss (.t 6) (.t 8)⟩,⟨some 10,none,.mv (.t 9)⟩,⟨some 11,some ⟨10,false⟩,.fieldAddr 0 (.t 2)⟩,⟨some 12,some ⟨10,false⟩,.load none (.t 11)⟩,⟨some 13,some ⟨10,false⟩,.fieldAddr 0 (.t 3)⟩,⟨some 14,some ⟨10,false⟩,.load none (.t 13)⟩,⟨some 15,some ⟨10,false⟩,.bin .eql (.t 12) (.t 14)⟩,⟨some 16,some ⟨10,false⟩,.mv (.t 15)⟩,⟨some 17,some ⟨16,true⟩,.fieldAddr 1 (.t 2)⟩,⟨some 18,some ⟨16,true⟩,.load none (.t 17)⟩,⟨some 19,some ⟨16,true⟩,.fieldAddr 1 (.t 3)⟩,⟨some 20,some ⟨16,true⟩,.load none (.t 19)⟩,⟨some 21,some ⟨16,true⟩,.bin .lss (.t 18) (.t 20)⟩,⟨some 22,some ⟨10,false⟩,.pick (.t 16) (.t 21) (.c (.t (.bool false)))⟩,⟨some 23,none,.pick (.t 10) (.c (.t (.bool true))) (.t 22)⟩,⟨some 4,none,.mv (.t 23)⟩]) .ret))
theorem k_spec_l39Ahead:comp Tryd.prog 24 (Tryd.f40.body.getD .skip)=some c_spec_l39Ahead:=by kernel_rfl
theorem spec_l39Ahead (a b:SheetBlock) (ha:a.Ok) (hb:b.Ok)  (σ:Store):ACalls Tryd.prog 40 [.agg (a.vs),.agg (b.vs)] σ fun rr σ'=>rr=.t (.bool (ahead a b))∧σ'=σ:=by
 refine acalls_of Tryd.func40 (by decide +kernel) (code:=Tryd.f40.body.getD .skip) (n:=24) (c:=c_spec_l39Ahead) (rs:=[(.tmp 4)]) rfl rfl k_spec_l39Ahead (by kernel_rfl) (by simp) (fun hσ=>?_)
 have hh:True:=trivial
 have fin:∀ {u:V} {τ:Store},u=.t (.bool (ahead a b))→u.lt σ.length=true→retV σ.length (fun rr σ'=>rr=.t (.bool (ahead a b))∧σ'=σ) (σ++τ) (some [u]):=fun h h2=>ret_same rfl hσ h2 ⟨h,rfl⟩
 have fin0:∀ {u:V},u=.t (.bool (ahead a b))→retV σ.length (fun rr σ'=>rr=.t (.bool (ahead a b))∧σ'=σ) σ (some [u]):=fun h=>ret_same0 rfl ⟨h,rfl⟩
 simp -implicitDefEqProofs only [c_spec_l39Ahead,SheetBlock.vs,zZ,zA,zB,zC,zD,zE,zG,zH,zI,zJ,zK,if_true,if_false,reduceCtorEq,zW,zX,zY,za,zb]
 repeat' (first
  | ((with_reducible refine cond_known (fun h=>?_) (fun h=>?_)) <;> (replace hh:=And.intro h hh; clear h; simp -implicitDefEqProofs only [hh,cond_t,cond_f,zZ,zA,zB,zC,zD,zE,zG,zH,zI,zJ,zK,if_true,if_false,reduceCtorEq,zW,zX,zY,za,zb]))
  | (first | ((with_reducible refine fin0 ?_); refine tb ?_; (try simp only [Known] at hh); unfold ahead; grind) | ((with_reducible refine fin ?_ ?_); rotate_left; exact rfl; refine tb ?_; (try simp only [Known] at hh); unfold ahead; grind)))
end Go.Proofs.YtnnnemgbgilfaaaDoor.W
end
