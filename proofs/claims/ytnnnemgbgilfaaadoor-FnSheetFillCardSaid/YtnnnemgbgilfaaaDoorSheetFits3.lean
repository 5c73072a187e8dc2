/- Which words fit a key. Conditions: none. -/
/- Which words fit a key. Conditions: none. -/
/- Which words fit a key. Conditions: none. -/
import Derived.Test.YtnnnemgbgilfaaaDoorSheetNum
import Derived.Test.YtnnnemgbgilfaaaDoorSheetRuleI
set_option linter.unusedSimpArgs false
set_option linter.unusedVariables false
set_option linter.defProp false
open Bool renaming and_eq_true → yB
open Go.Ab renaming eget → zC, env0 → zD, isNilP → zI, isNilS → zJ, lenSl → zH, lenStr → zG, nat_nn → zV, opv → zA, opvs → zB, putAt → zK, setD → zE
open List renaming drop_succ_cons → zz, getElem?_cons_zero → zn, getElem?_map → zm, length_append → zt, length_cons → zj, length_map → zh, length_nil → zk, map_cons → zu, map_nil → zx
open Nat renaming reduceAdd → zb, reduceEqDiff → zX, reduceLeDiff → zW, reduceMul → za, reduceSub → zY, zero_le → zd
open Option renaming map_some → yA
section
open Go Go.Ab
set_option maxHeartbeats 2000000
namespace Go.Proofs.YtnnnemgbgilfaaaDoor.W
def wi (n lo hi:Int):Bool:=decide (lo≤n) && decide (n≤hi)
def bytB (n:Int):Bool:=(decide (n ≥ 97) && decide (n≤122)) || (decide (n ≥ 48) && decide (n≤57)) || n == 45
def byteOk (b:UInt8):Bool:=bytB (b.toNat:Int)
def nameS (s:List UInt8):Bool:=wi s.length 1 20 && s.all byteOk
theorem byte_all {p:UInt8→Bool} (h:((List.range 256).all fun n=>p (UInt8.ofNat n))=true) (c:UInt8):p c=true:=by
 have:=List.all_eq_true.1 h c.toNat (List.mem_range.2 c.toNat_lt)
 simpa using this
theorem dig_wrap (c:UInt8) (h:digB c=true):IntKind.i64.wrap (IntKind.u8.wrap ((c.toNat:Int) - 48))=((c.toNat - 48:Nat):Int):=by
 have:=byte_all (p:=fun c=>!digB c || decide (IntKind.i64.wrap (IntKind.u8.wrap ((c.toNat:Int) - 48))=((c.toNat - 48:Nat):Int))) (by decide +kernel) c
 simpa [h] using this
theorem dig_bnd {c:UInt8} (h:digB c=true):48≤c.toNat∧c.toNat≤57:=by
 simpa [digB] using h
theorem dig_not {c:UInt8} (h:digB c=false):c.toNat<48∨57<c.toNat:=by
 simp [digB] at h; omega
theorem val_step {s:List UInt8} {k:Nat} {x:UInt8} (h:s[k]?=some x):valN (s.take (k+1))=10 * valN (s.take k)+(x.toNat - 48):=by
 rw [take_of h,valN_app]
theorem all_dig_not {s:List UInt8} {k:Nat} {x:UInt8} (h:s[k]?=some x) (hd:digB x=false):s.all digB=false:=by
 rw [List.all_eq_false]
 exact ⟨x,List.mem_of_getElem? h,by simp [hd]⟩
theorem val_bnd {s:List UInt8} (hl:s.length≤7) (h:s.all digB=true):valN s<10000000:=by
 have h1:=valN_lt s h
 have h2:10 ^ s.length≤10 ^ 7:=Nat.pow_le_pow_right (by omega) hl
 omega
def c_spec_l37In:C:=(.seq (.ops [⟨some 6,none,.mv (.c (.t (.bool false)))⟩]) (.seq (.ops [⟨some 7,none,.mv (.t 0)⟩,⟨some 8,none,.mv (.t 1)⟩,⟨some 9,none,.bin .geq (.t 7) (.t 8)⟩,⟨some 10,none,.mv (.t 9)⟩,⟨some 11,some ⟨10,true⟩,.mv (.t 0)⟩,⟨some 12,some ⟨10,true⟩,.mv (.t 2)⟩,⟨some 13,some ⟨10,true⟩,.bin .leq (.t 11) (.t 12)⟩,⟨some 14,none,.pick (.t 10) (.t 13) (.c (.t (.bool false)))⟩,⟨some 6,none,.mv (.t 14)⟩]) .ret))
theorem k_spec_l37In:comp Tryd.prog 15 (Tryd.f66.body.getD .skip)=some c_spec_l37In:=by kernel_rfl
theorem spec_l37In (n lo hi:Int)  (σ:Store):ACalls Tryd.prog 66 [.t (.int .i64 (n)),.t (.int .i64 (lo)),.t (.int .i64 (hi))] σ fun rr σ'=>rr=.t (.bool (wi n lo hi))∧σ'=σ:=by
 refine acalls_of Tryd.func66 (by decide +kernel) (code:=Tryd.f66.body.getD .skip) (n:=15) (c:=c_spec_l37In) (rs:=[(.tmp 6)]) rfl rfl k_spec_l37In (by kernel_rfl) (by simp) (fun hσ=>?_)
 have hh:True:=trivial
 have fin:∀ {u:V} {τ:Store},u=.t (.bool (wi n lo hi))→u.lt σ.length=true→retV σ.length (fun rr σ'=>rr=.t (.bool (wi n lo hi))∧σ'=σ) (σ++τ) (some [u]):=fun h h2=>ret_same rfl hσ h2 ⟨h,rfl⟩
 have fin0:∀ {u:V},u=.t (.bool (wi n lo hi))→retV σ.length (fun rr σ'=>rr=.t (.bool (wi n lo hi))∧σ'=σ) σ (some [u]):=fun h=>ret_same0 rfl ⟨h,rfl⟩
 simp -implicitDefEqProofs only [c_spec_l37In,zZ,zA,zB,zC,zD,zE,zG,zH,zI,zJ,zK,if_true,if_false,reduceCtorEq,zW,zX,zY,za,zb]
 repeat' (first
  | ((with_reducible refine cond_known (fun h=>?_) (fun h=>?_)) <;> (replace hh:=And.intro h hh; clear h; simp -implicitDefEqProofs only [hh,cond_t,cond_f,zZ,zA,zB,zC,zD,zE,zG,zH,zI,zJ,zK,if_true,if_false,reduceCtorEq,zW,zX,zY,za,zb]))
  | (first | ((with_reducible refine fin0 ?_); refine tb ?_; (try simp only [Known] at hh); grind [wi]) | ((with_reducible refine fin ?_ ?_); rotate_left; exact rfl; refine tb ?_; (try simp only [Known] at hh); grind [wi])))
def c_spec_l38NameOk:C:=(.seq (.ops [⟨some 2,none,.mv (.c (.t (.bool false)))⟩]) (.seq (.seq (.ops [⟨some 5,none,.mv (.t 0)⟩,⟨some 6,none,.len true (.t 5)⟩,⟨some 7,none,.call (.c (.fn (.func 66) [])) [.t 6,.c (.t (.int .i64 1)),.c (.t (.int .i64 20))]⟩,⟨some 8,none,.un .not (.t 7)⟩]) (.cond (.t 8) (.seq (.ops [⟨some 2,none,.mv (.c (.t (.bool false)))⟩]) .ret) .skip)) (.seq (.seq (.ops [⟨some 3,none,.mv (.c (.t (.int .i64 0)))⟩]) (.block 0 (.loop (.seq (.seq (.ops [⟨some 9,none,.mv (.t 3)⟩,⟨some 10,none,.mv (.t 0)⟩,⟨some 11,none,.len true (.t 10)⟩,⟨some 12,none,.bin .lss (.t 9) (.t 11)⟩]) (.cond (.t 12) .skip (.exit 0))) (.seq (.block 1 (.seq (.ops [⟨some 15,none,.mv (.t 0)⟩,⟨some 16,none,.mv (.t 3)⟩,⟨some 17,none,.index (.t 15) (.t 16)⟩,⟨some 4,none,.mv (.t 17)⟩]) (.seq (.ops [⟨some 18,none,.mv (.t 4)⟩,⟨some 19,none,.bin .geq (.t 18) (.c (.t (.int .u8 97)))⟩,⟨some 20,none,.mv (.t 19)⟩,⟨some 21,some ⟨20,true⟩,.mv (.t 4)⟩,⟨some 22,some ⟨20,true⟩,.bin .leq (.t 21) (.c (.t (.int .u8 122)))⟩,⟨some 23,none,.pick (.t 20) (.t 22) (.c (.t (.bool false)))⟩,⟨some 24,none,.mv (.t 23)⟩,⟨some 25,some ⟨24,false⟩,.mv (.t 4)⟩,⟨some 26,some ⟨24,false⟩,.bin .geq (.t 25) (.c (.t (.int .u8 48)))⟩,⟨some 27,some ⟨24,false⟩,.mv (.t 26)⟩,⟨some 28,some ⟨27,true⟩,.mv (.t 4)⟩,⟨some 29,some ⟨27,true⟩,.bin .leq (.t 28) (.c (.t (.int .u8 57)))⟩,⟨some 30,some ⟨24,false⟩,.pick (.t 27) (.t 29) (.c (.t (.bool false)))⟩,⟨some 31,none,.pick (.t 24) (.c (.t (.bool true))) (.t 30)⟩,⟨some 32,none,.mv (.t 31)⟩,⟨some 33,some ⟨32,false⟩,.mv (.t 4)⟩,⟨some 34,some ⟨32,false⟩,.bin .eql (.t 33) (.c (.t (.int .u8 45)))⟩,⟨some 35,none,.pick (.t 32) (.c (.t (.bool true))) (.t 34)⟩,⟨some 36,none,.un .not (.t 35)⟩]) (.cond (.t 36) (.seq (.ops [⟨some 2,none,.mv (.c (.t (.bool false)))⟩]) .ret) .skip)))) (.ops [⟨some 13,none,.mv (.t 3)⟩,⟨some 14,none,.bin .add (.t 13) (.c (.t (.int .i64 1)))⟩,⟨some 3,none,.mv (.t 14)⟩])))))) (.seq (.ops [⟨some 2,none,.mv (.c (.t (.bool true)))⟩]) .ret))))
theorem k_spec_l38NameOk:comp Tryd.prog 37 (Tryd.f38.body.getD .skip)=some c_spec_l38NameOk:=by kernel_rfl
theorem spec_l38NameOk (s:List UInt8) (hs:s.length≤1048576) (σ:Store):ACalls Tryd.prog 38 [.t (.str (s))] σ fun rr σ'=>rr=.t (.bool (nameS s))∧σ'=σ:=by
 refine acalls_of Tryd.func38 (by decide +kernel) (code:=Tryd.f38.body.getD .skip) (n:=37) (c:=c_spec_l38NameOk) (rs:=[(.tmp 2)]) rfl rfl k_spec_l38NameOk (by kernel_rfl) (by simp) (fun hσ=>?_)
 have hh:True:=trivial
 have fin:∀ {u:V} {τ:Store},u=.t (.bool (nameS s))→u.lt σ.length=true→retV σ.length (fun rr σ'=>rr=.t (.bool (nameS s))∧σ'=σ) (σ++τ) (some [u]):=fun h h2=>ret_same rfl hσ h2 ⟨h,rfl⟩
 have fin0:∀ {u:V},u=.t (.bool (nameS s))→retV σ.length (fun rr σ'=>rr=.t (.bool (nameS s))∧σ'=σ) σ (some [u]):=fun h=>ret_same0 rfl ⟨h,rfl⟩
 simp -implicitDefEqProofs only [c_spec_l38NameOk,zZ,zA,zB,zC,zD,zE,zG,zH,zI,zJ,zK,if_true,if_false,reduceCtorEq,zW,zX,zY,za,zb]
 repeat' (first
  | ((with_reducible refine cond_known (fun h=>?_) (fun h=>?_)) <;> (replace hh:=And.intro h hh; clear h; simp -implicitDefEqProofs only [hh,cond_t,cond_f,zZ,zA,zB,zC,zD,zE,zG,zH,zI,zJ,zK,if_true,if_false,reduceCtorEq,zW,zX,zY,za,zb]))
  | ((with_reducible refine call_pure (spec_l37In _ _ _ _) ?_); simp -implicitDefEqProofs only [hh,cond_t,cond_f,zZ,zA,zB,zC,zD,zE,zG,zH,zI,zJ,zK,if_true,if_false,reduceCtorEq,zW,zX,zY,za,zb])
  | (first | ((with_reducible refine fin0 ?_); refine tb ?_; (try simp only [Known] at hh); grind [nameS]) | ((with_reducible refine fin ?_ ?_); rotate_left; exact rfl; refine tb ?_; (try simp only [Known] at hh); grind [nameS])))
 refine loop_p [3,0] [0] (fun k:Nat=>[(3,.t (.int .i64 (k:Nat)))]) (fun k=>k≤(s).length∧((s).take k).all byteOk=true) (fun k=>(s).length - k) 0 (by simp) ⟨Nat.zero_le _,rfl⟩ rfl ?_
 rintro k ⟨hk,hall⟩
 simp -implicitDefEqProofs only [keep,zh,zZ,zA,zB,zC,zD,zE,zG,zH,zI,zJ,zK,if_true,if_false,reduceCtorEq,zW,zX,zY,za,zb]
 refine cond_split (fun h1=>?_) (fun h1=>?_)
 ·obtain ⟨x,hx,hlt⟩:=at_of h1
  clear h1 hh
  have hh:True:=trivial
  simp -implicitDefEqProofs only [hx,zV,zd,zm,yA,i64_succ (show k<4611686018427387904 by omega),zZ,zA,zB,zC,zD,zE,zG,zH,zI,zJ,zK,if_true,if_false,reduceCtorEq,zW,zX,zY,za,zb]
  repeat' (first
  | ((with_reducible refine cond_known (fun h=>?_) (fun h=>?_)) <;> (replace hh:=And.intro h hh; clear h; simp -implicitDefEqProofs only [hh,cond_t,cond_f,hx,zV,zd,zm,yA,i64_succ (show k<4611686018427387904 by omega),zZ,zA,zB,zC,zD,zE,zG,zH,zI,zJ,zK,if_true,if_false,reduceCtorEq,zW,zX,zY,za,zb]))
  | (first | ((with_reducible refine fin0 ?_); refine tb ?_; (try simp only [Known] at hh); have hno:=all_not (l:=(s)) (p:=byteOk) hx; grind [nameS,wi,byteOk,bytB]) | ((with_reducible refine fin ?_ ?_); rotate_left; exact rfl; refine tb ?_; (try simp only [Known] at hh); have hno:=all_not (l:=(s)) (p:=byteOk) hx; grind [nameS,wi,byteOk,bytB]) | (refine lk_p0 (k+1) (by simp) (by simp) (by omega) ⟨by omega,all_step hx hall ?_⟩ rfl; (try simp only [Known] at hh); grind [byteOk,bytB]) | (refine lk_p (k+1) (by simp) (by simp) hσ rfl (by omega) ⟨by omega,all_step hx hall ?_⟩ rfl rfl; (try simp only [Known] at hh); grind [byteOk,bytB]) | (refine lk_pm (k+1) (Nat.le_refl _) (by simp) hσ rfl rfl (by omega) ⟨by omega,all_step hx hall ?_⟩ (by simp [ltE,keep,eget,V.lt]) rfl; (try simp only [Known] at hh); grind [byteOk,bytB])))
 replace hall:=all_len hall ((end_of h1 hk).trans (by rfl))
 clear h1 hk
 simp -implicitDefEqProofs only [zZ,zA,zB,zC,zD,zE,zG,zH,zI,zJ,zK,if_true,if_false,reduceCtorEq,zW,zX,zY,za,zb]
 (first | ((with_reducible refine fin0 ?_); refine tb ?_; (try simp only [Known] at hh); grind [nameS]) | ((with_reducible refine fin ?_ ?_); rotate_left; exact rfl; refine tb ?_; (try simp only [Known] at hh); grind [nameS]))
def c_impl_isName_sheet:C:=(.seq (.ops [⟨some 2,none,.mv (.c (.t (.bool false)))⟩]) (.seq (.seq (.ops [⟨some 5,none,.mv (.t 0)⟩,⟨some 6,none,.len true (.t 5)⟩,⟨some 7,none,.mv (.c (.t (.int .i64 0)))⟩]) (.block 0 (.loop (.seq (.ops [⟨some 8,none,.bin .lss (.t 7) (.t 6)⟩]) (.seq (.cond (.t 8) .skip (.exit 0)) (.seq (.block 1 (.seq (.ops [⟨some 9,none,.mv (.t 7)⟩,⟨some 3,none,.mv (.t 9)⟩]) (.seq (.ops [⟨some 10,none,.mv (.t 0)⟩,⟨some 11,none,.mv (.t 3)⟩,⟨some 12,none,.index (.t 10) (.t 11)⟩,⟨some 4,none,.mv (.t 12)⟩]) (.seq (.ops [⟨some 13,none,.mv (.t 4)⟩,⟨some 14,none,.bin .geq (.t 13) (.c (.t (.int .u8 97)))⟩,⟨some 15,none,.mv (.t 14)⟩,⟨some 16,some ⟨15,true⟩,.mv (.t 4)⟩,⟨some 17,some ⟨15,true⟩,.bin .leq (.t 16) (.c (.t (.int .u8 122)))⟩,⟨some 18,none,.pick (.t 15) (.t 17) (.c (.t (.bool false)))⟩,⟨some 19,none,.mv (.t 18)⟩,⟨some 20,some ⟨19,false⟩,.mv (.t 4)⟩,⟨some 21,some ⟨19,false⟩,.bin .geq (.t 20) (.c (.t (.int .u8 48)))⟩,⟨some 22,some ⟨19,false⟩,.mv (.t 21)⟩,⟨some 23,some ⟨22,true⟩,.mv (.t 4)⟩,⟨some 24,some ⟨22,true⟩,.bin .leq (.t 23) (.c (.t (.int .u8 57)))⟩,⟨some 25,some ⟨19,false⟩,.pick (.t 22) (.t 24) (.c (.t (.bool false)))⟩,⟨some 26,none,.pick (.t 19) (.c (.t (.bool true))) (.t 25)⟩,⟨some 27,none,.mv (.t 26)⟩,⟨some 28,some ⟨27,false⟩,.mv (.t 4)⟩,⟨some 29,some ⟨27,false⟩,.bin .eql (.t 28) (.c (.t (.int .u8 45)))⟩,⟨some 30,none,.pick (.t 27) (.c (.t (.bool true))) (.t 29)⟩,⟨some 31,none,.un .not (.t 30)⟩]) (.cond (.t 31) (.seq (.ops [⟨some 2,none,.mv (.c (.t (.bool false)))⟩]) .ret) .skip))))) (.ops [⟨some 32,none,.bin .add (.t 7) (.c (.t (.int .i64 1)))⟩,⟨some 7,none,.mv (.t 32)⟩]))))))) (.seq (.ops [⟨some 33,none,.mv (.t 0)⟩,⟨some 34,none,.bin .neq (.t 33) (.c (.t (.str [])))⟩,⟨some 35,none,.mv (.t 34)⟩,⟨some 36,some ⟨35,true⟩,.mv (.t 0)⟩,⟨some 37,some ⟨35,true⟩,.len true (.t 36)⟩,⟨some 38,some ⟨35,true⟩,.bin .leq (.t 37) (.c (.t (.int .i64 20)))⟩,⟨some 39,none,.pick (.t 35) (.t 38) (.c (.t (.bool false)))⟩,⟨some 2,none,.mv (.t 39)⟩]) .ret)))
theorem k_impl_isName_sheet:comp Tryd.prog 40 (Tryd.f68.body.getD .skip)=some c_impl_isName_sheet:=by kernel_rfl
theorem impl_isName_sheet (s:List UInt8) (hs:s.length≤1048576) (σ:Store):ACalls Tryd.prog 68 [.t (.str (s))] σ fun rr σ'=>rr=.t (.bool (nameS s))∧σ'=σ:=by
 refine acalls_of Tryd.func68 (by decide +kernel) (code:=Tryd.f68.body.getD .skip) (n:=40) (c:=c_impl_isName_sheet) (rs:=[(.tmp 2)]) rfl rfl k_impl_isName_sheet (by kernel_rfl) (by simp) (fun hσ=>?_)
 have hh:True:=trivial
 have fin:∀ {u:V} {τ:Store},u=.t (.bool (nameS s))→u.lt σ.length=true→retV σ.length (fun rr σ'=>rr=.t (.bool (nameS s))∧σ'=σ) (σ++τ) (some [u]):=fun h h2=>ret_same rfl hσ h2 ⟨h,rfl⟩
 have fin0:∀ {u:V},u=.t (.bool (nameS s))→retV σ.length (fun rr σ'=>rr=.t (.bool (nameS s))∧σ'=σ) σ (some [u]):=fun h=>ret_same0 rfl ⟨h,rfl⟩
 simp -implicitDefEqProofs only [c_impl_isName_sheet,zZ,zA,zB,zC,zD,zE,zG,zH,zI,zJ,zK,if_true,if_false,reduceCtorEq,zW,zX,zY,za,zb]
 refine loop_p [7,0,6] [0,6] (fun k:Nat=>[(7,.t (.int .i64 (k:Nat)))]) (fun k=>k≤(s).length∧((s).take k).all byteOk=true) (fun k=>(s).length - k) 0 (by simp) ⟨Nat.zero_le _,rfl⟩ rfl ?_
 rintro k ⟨hk,hall⟩
 simp -implicitDefEqProofs only [keep,zh,zZ,zA,zB,zC,zD,zE,zG,zH,zI,zJ,zK,if_true,if_false,reduceCtorEq,zW,zX,zY,za,zb]
 refine cond_split (fun h1=>?_) (fun h1=>?_)
 ·obtain ⟨x,hx,hlt⟩:=at_of h1
  clear h1 hh
  have hh:True:=trivial
  simp -implicitDefEqProofs only [hx,zV,zd,zm,yA,i64_succ (show k<4611686018427387904 by omega),zZ,zA,zB,zC,zD,zE,zG,zH,zI,zJ,zK,if_true,if_false,reduceCtorEq,zW,zX,zY,za,zb]
  repeat' (first
  | ((with_reducible refine cond_known (fun h=>?_) (fun h=>?_)) <;> (replace hh:=And.intro h hh; clear h; simp -implicitDefEqProofs only [hh,cond_t,cond_f,hx,zV,zd,zm,yA,i64_succ (show k<4611686018427387904 by omega),zZ,zA,zB,zC,zD,zE,zG,zH,zI,zJ,zK,if_true,if_false,reduceCtorEq,zW,zX,zY,za,zb]))
  | (first | ((with_reducible refine fin0 ?_); refine tb ?_; (try simp only [Known] at hh); have hno:=all_not (l:=(s)) (p:=byteOk) hx; grind [nameS,wi,byteOk,bytB]) | ((with_reducible refine fin ?_ ?_); rotate_left; exact rfl; refine tb ?_; (try simp only [Known] at hh); have hno:=all_not (l:=(s)) (p:=byteOk) hx; grind [nameS,wi,byteOk,bytB]) | (refine lk_p0 (k+1) (by simp) (by simp) (by omega) ⟨by omega,all_step hx hall ?_⟩ rfl; (try simp only [Known] at hh); grind [byteOk,bytB]) | (refine lk_p (k+1) (by simp) (by simp) hσ rfl (by omega) ⟨by omega,all_step hx hall ?_⟩ rfl rfl; (try simp only [Known] at hh); grind [byteOk,bytB]) | (refine lk_pm (k+1) (Nat.le_refl _) (by simp) hσ rfl rfl (by omega) ⟨by omega,all_step hx hall ?_⟩ (by simp [ltE,keep,eget,V.lt]) rfl; (try simp only [Known] at hh); grind [byteOk,bytB])))
 replace hall:=all_len hall ((end_of h1 hk).trans (by rfl))
 clear h1 hk
 simp -implicitDefEqProofs only [zZ,zA,zB,zC,zD,zE,zG,zH,zI,zJ,zK,if_true,if_false,reduceCtorEq,zW,zX,zY,za,zb]
 repeat' (first
  | ((with_reducible refine cond_known (fun h=>?_) (fun h=>?_)) <;> (replace hh:=And.intro h hh; clear h; simp -implicitDefEqProofs only [hh,cond_t,cond_f,zZ,zA,zB,zC,zD,zE,zG,zH,zI,zJ,zK,if_true,if_false,reduceCtorEq,zW,zX,zY,za,zb]))
  | (first | ((with_reducible refine fin0 ?_); refine tb ?_; (try simp only [Known] at hh); cases s <;> simp [nameS,wi] at * <;> grind) | ((with_reducible refine fin ?_ ?_); rotate_left; exact rfl; refine tb ?_; (try simp only [Known] at hh); cases s <;> simp [nameS,wi] at * <;> grind)))
def c_impl_isNumber:C:=(.seq (.ops [⟨some 2,none,.mv (.c (.t (.bool false)))⟩]) (.seq (.seq (.ops [⟨some 5,none,.mv (.t 0)⟩,⟨some 6,none,.bin .eql (.t 5) (.c (.t (.str [])))⟩,⟨some 7,none,.mv (.t 6)⟩,⟨some 8,some ⟨7,false⟩,.mv (.t 0)⟩,⟨some 9,some ⟨7,false⟩,.len true (.t 8)⟩,⟨some 10,some ⟨7,false⟩,.bin .gtr (.t 9) (.c (.t (.int .i64 7)))⟩,⟨some 11,none,.pick (.t 7) (.c (.t (.bool true))) (.t 10)⟩,⟨some 12,none,.mv (.t 11)⟩,⟨some 13,some ⟨12,false⟩,.mv (.t 0)⟩,⟨some 14,some ⟨12,false⟩,.len true (.t 13)⟩,⟨some 15,some ⟨12,false⟩,.bin .gtr (.t 14) (.c (.t (.int .i64 1)))⟩,⟨some 16,some ⟨12,false⟩,.mv (.t 15)⟩,⟨some 17,some ⟨16,true⟩,.mv (.t 0)⟩,⟨some 18,some ⟨16,true⟩,.index (.t 17) (.c (.t (.int .i64 0)))⟩,⟨some 19,some ⟨16,true⟩,.bin .eql (.t 18) (.c (.t (.int .u8 48)))⟩,⟨some 20,some ⟨12,false⟩,.pick (.t 16) (.t 19) (.c (.t (.bool false)))⟩,⟨some 21,none,.pick (.t 12) (.c (.t (.bool true))) (.t 20)⟩]) (.cond (.t 21) (.seq (.ops [⟨some 2,none,.mv (.c (.t (.bool false)))⟩]) .ret) .skip)) (.seq (.ops [⟨some 3,none,.mv (.c (.t (.int .i64 0)))⟩]) (.seq (.seq (.ops [⟨some 22,none,.mv (.t 0)⟩,⟨some 23,none,.len true (.t 22)⟩,⟨some 24,none,.mv (.c (.t (.int .i64 0)))⟩]) (.block 0 (.loop (.seq (.ops [⟨some 25,none,.bin .lss (.t 24) (.t 23)⟩]) (.seq (.cond (.t 25) .skip (.exit 0)) (.seq (.block 1 (.seq (.ops [⟨some 26,none,.mv (.t 24)⟩,⟨some 4,none,.mv (.t 26)⟩]) (.seq (.seq (.ops [⟨some 27,none,.mv (.t 0)⟩,⟨some 28,none,.mv (.t 4)⟩,⟨some 29,none,.index (.t 27) (.t 28)⟩,⟨some 30,none,.bin .lss (.t 29) (.c (.t (.int .u8 48)))⟩,⟨some 31,none,.mv (.t 30)⟩,⟨some 32,some ⟨31,false⟩,.mv (.t 0)⟩,⟨some 33,some ⟨31,false⟩,.mv (.t 4)⟩,⟨some 34,some ⟨31,false⟩,.index (.t 32) (.t 33)⟩,⟨some 35,some ⟨31,false⟩,.bin .gtr (.t 34) (.c (.t (.int .u8 57)))⟩,⟨some 36,none,.pick (.t 31) (.c (.t (.bool true))) (.t 35)⟩]) (.cond (.t 36) (.seq (.ops [⟨some 2,none,.mv (.c (.t (.bool false)))⟩]) .ret) .skip)) (.ops [⟨some 37,none,.mv (.t 3)⟩,⟨some 38,none,.bin .mul (.c (.t (.int .i64 10))) (.t 37)⟩,⟨some 39,none,.mv (.t 0)⟩,⟨some 40,none,.mv (.t 4)⟩,⟨some 41,none,.index (.t 39) (.t 40)⟩,⟨some 42,none,.bin .sub (.t 41) (.c (.t (.int .u8 48)))⟩,⟨some 43,none,.convInt .i64 (.t 42)⟩,⟨some 44,none,.bin .add (.t 38) (.t 43)⟩,⟨some 3,none,.mv (.t 44)⟩])))) (.ops [⟨some 45,none,.bin .add (.t 24) (.c (.t (.int .i64 1)))⟩,⟨some 24,none,.mv (.t 45)⟩]))))))) (.seq (.ops [⟨some 46,none,.mv (.t 3)⟩,⟨some 47,none,.bin .leq (.t 46) (.c (.t (.int .i64 1000000)))⟩,⟨some 2,none,.mv (.t 47)⟩]) .ret)))))
theorem k_impl_isNumber:comp Tryd.prog 48 (Tryd.f102.body.getD .skip)=some c_impl_isNumber:=by kernel_rfl
theorem impl_isNumber (s:List UInt8) (hs:s.length≤1048576) (σ:Store):ACalls Tryd.prog 102 [.t (.str (s))] σ fun rr σ'=>rr=.t (.bool (numI s))∧σ'=σ:=by
 refine acalls_of Tryd.func102 (by decide +kernel) (code:=Tryd.f102.body.getD .skip) (n:=48) (c:=c_impl_isNumber) (rs:=[(.tmp 2)]) rfl rfl k_impl_isNumber (by kernel_rfl) (by simp) (fun hσ=>?_)
 have hh:True:=trivial
 have fin:∀ {u:V} {τ:Store},u=.t (.bool (numI s))→u.lt σ.length=true→retV σ.length (fun rr σ'=>rr=.t (.bool (numI s))∧σ'=σ) (σ++τ) (some [u]):=fun h h2=>ret_same rfl hσ h2 ⟨h,rfl⟩
 have fin0:∀ {u:V},u=.t (.bool (numI s))→retV σ.length (fun rr σ'=>rr=.t (.bool (numI s))∧σ'=σ) σ (some [u]):=fun h=>ret_same0 rfl ⟨h,rfl⟩
 by_cases h0:(s == [] || decide (7<s.length) || (decide (1<s.length) && (s[0]?.getD 0 == 48)))=true
 ·have hr:numI s=false:=by simp only [numI,h0]; rfl
  simp -implicitDefEqProofs only [c_impl_isNumber,zZ,zA,zB,zC,zD,zE,zG,zH,zI,zJ,zK,if_true,if_false,reduceCtorEq,zW,zX,zY,za,zb]
  match s,h0,hr,hs with
  | [],_,hr,_ =>
   have e0:(([]:List UInt8) == [])=true:=rfl
   simp -implicitDefEqProofs only [e0,cond_t,cond_f,zZ,zA,zB,zC,zD,zE,zG,zH,zI,zJ,zK,if_true,if_false,reduceCtorEq,zW,zX,zY,za,zb]
   exact fin0 (by rw [hr])
  | c::s',h0,hr,hs =>
   have e0:((c::s') == [])=false:=rfl
   have e1:(c::s')[Int.toNat 0]?=some c:=rfl
   simp only [e0,Bool.false_or,zn,Option.getD_some] at h0
   simp -implicitDefEqProofs only [e0,e1,cond_t,cond_f,Int.le_refl,zZ,zA,zB,zC,zD,zE,zG,zH,zI,zJ,zK,if_true,if_false,reduceCtorEq,zW,zX,zY,za,zb]
   repeat' (first
  | ((with_reducible refine cond_known (fun h=>?_) (fun h=>?_)) <;> (replace hh:=And.intro h hh; clear h; simp -implicitDefEqProofs only [hh,cond_t,cond_f,e1,Int.le_refl,zd,zZ,zA,zB,zC,zD,zE,zG,zH,zI,zJ,zK,if_true,if_false,reduceCtorEq,zW,zX,zY,za,zb]))
  | (exfalso; simp only [Known] at hh; simp at hh h0; first | omega | (obtain ⟨h1,h2⟩:=hh; rcases h0 with h0 | h0; omega; obtain ⟨_,rfl⟩:=h0; simp at *; done) | grind)
  | (first | ((with_reducible refine fin0 ?_); refine tb ?_; (try simp only [Known] at hh); rw [hr]) | ((with_reducible refine fin ?_ ?_); rotate_left; exact rfl; refine tb ?_; (try simp only [Known] at hh); rw [hr])))
 ·have n0:(s == [] || decide (7<s.length) || (decide (1<s.length) && (s[0]?.getD 0 == 48)))=false:=by simpa using h0
  obtain ⟨c,s',rfl⟩:∃ c s',s=c::s':=by
   cases s with
   | nil=>simp at h0
   | cons c s'=>exact ⟨c,s',rfl⟩
  generalize hgs:c::s'=s at *
  have e0:(s == [])=false:=by rw [← hgs]; rfl
  have e1:s[Int.toNat 0]?=some c:=by rw [← hgs]; rfl
  have e2:s[0]?.getD 0=c:=by rw [← hgs]; rfl
  have n1:=n0
  simp only [e0,e2,Bool.false_or,Bool.or_eq_false_iff,Bool.and_eq_false_iff] at n1
  obtain ⟨n7,n8⟩:=n1
  have hs7:s.length≤7:=by simpa using n7
  have n7b:decide (((s.length:Nat):Int) > 7)=false:=by simp at n7 ⊢; omega
  simp -implicitDefEqProofs only [c_impl_isNumber,e0,n7b,cond_t,cond_f,zZ,zA,zB,zC,zD,zE,zG,zH,zI,zJ,zK,if_true,if_false,reduceCtorEq,zW,zX,zY,za,zb]
  rcases hl1:decide (((s.length:Nat):Int) > 1) with _ | _
  ·simp -implicitDefEqProofs only [hl1,e1,cond_t,cond_f,Int.le_refl,zZ,zA,zB,zC,zD,zE,zG,zH,zI,zJ,zK,if_true,if_false,reduceCtorEq,zW,zX,zY,za,zb]
   refine loop_p [3,24,0,23] [0,23] (fun k:Nat=>[(3,.t (.int .i64 ((valN (s.take k):Nat):Int))),(24,.t (.int .i64 (k:Nat)))]) (fun k=>k≤s.length∧(s.take k).all digB=true) (fun k=>s.length - k) 0 (by simp) ⟨Nat.zero_le _,rfl⟩ rfl ?_
   rintro k ⟨hk,hall⟩
   simp -implicitDefEqProofs only [keep,zZ,zA,zB,zC,zD,zE,zG,zH,zI,zJ,zK,if_true,if_false,reduceCtorEq,zW,zX,zY,za,zb]
   refine cond_split (fun h1=>?_) (fun h1=>?_)
   ·obtain ⟨x,hx,hlt⟩:=at_of h1
    have more:=i64_succ (show k<4611686018427387904 by omega)
    have hvb:=val_bnd (s:=s.take k) (by rw [List.length_take]; omega) hall
    clear h1 hh
    have hh:True:=trivial
    rcases hd:digB x with _ | _
    ·have hno:=all_dig_not hx hd
     have hdn:=dig_not hd
     simp -implicitDefEqProofs only [hx,zV,zd,zZ,zA,zB,zC,zD,zE,zG,zH,zI,zJ,zK,if_true,if_false,reduceCtorEq,zW,zX,zY,za,zb]
     repeat' (first
    | ((with_reducible refine cond_known (fun h=>?_) (fun h=>?_)) <;> (replace hh:=And.intro h hh; clear h; simp -implicitDefEqProofs only [hh,cond_t,cond_f,hx,zV,zd,zZ,zA,zB,zC,zD,zE,zG,zH,zI,zJ,zK,if_true,if_false,reduceCtorEq,zW,zX,zY,za,zb]))
    | (exfalso; simp only [Known,decide_eq_true_eq,decide_eq_false_iff_not] at hh; omega)
    | (first | ((with_reducible refine fin0 ?_); refine tb ?_; (try simp only [Known] at hh); simp only [decide_eq_true_eq,decide_eq_false_iff_not] at hh; first | omega | simp [numOk,numI,hno]) | ((with_reducible refine fin ?_ ?_); rotate_left; exact rfl; refine tb ?_; (try simp only [Known] at hh); simp only [decide_eq_true_eq,decide_eq_false_iff_not] at hh; first | omega | simp [numOk,numI,hno])))
    ·obtain ⟨db1,db2⟩:=dig_bnd hd
     have d1:decide ((x.toNat:Int)<48)=false:=by simp; omega
     have d2:decide ((x.toNat:Int) > 57)=false:=by simp; omega
     have a1:IntKind.i64.wrap (10 * ((valN (s.take k):Nat):Int))=((10 * valN (s.take k):Nat):Int):=by rw [IntWalk.i64_in _ (by omega)]; omega
     have a2:=dig_wrap x hd
     have a3:IntKind.i64.wrap (((10 * valN (s.take k):Nat):Int)+((x.toNat - 48:Nat):Int))=((valN (s.take (k+1)):Nat):Int):=by rw [val_step hx,IntWalk.i64_in _ (by omega)]; omega
     simp -implicitDefEqProofs only [hx,zV,zd,d1,d2,a1,a2,a3,more,cond_t,cond_f,zZ,zA,zB,zC,zD,zE,zG,zH,zI,zJ,zK,if_true,if_false,reduceCtorEq,zW,zX,zY,za,zb]
     exact lk_p0 (k+1) (by simp) (by simp) (by omega) ⟨by omega,by rw [take_of hx,List.all_append,hall]; simp [hd]⟩ rfl
   have hkk:=end_of h1 hk
   subst hkk
   rw [List.take_length] at hall
   clear h1 hk
   simp -implicitDefEqProofs only [List.take_length,zZ,zA,zB,zC,zD,zE,zG,zH,zI,zJ,zK,if_true,if_false,reduceCtorEq,zW,zX,zY,za,zb]
   have hr:numI s=decide (valN s≤1000000):=by unfold numI; rw [n0,hall]; simp
   refine fin0 (tb ?_)
   rw [hr]
   exact decide_eq_decide.2 (by omega)
  ·have n9:(((c.toNat:Nat):Int) == 48)=false:=by
    have h2:decide (1<s.length)=true:=by simp at hl1 ⊢; omega
    rw [h2] at n8
    simp at n8 ⊢
    exact fun h=>n8 (UInt8.toNat.inj (by have h3:(c.toNat:Int)=48:=h; show c.toNat=48; omega))
   simp -implicitDefEqProofs only [hl1,e1,n9,cond_t,cond_f,Int.le_refl,zZ,zA,zB,zC,zD,zE,zG,zH,zI,zJ,zK,if_true,if_false,reduceCtorEq,zW,zX,zY,za,zb]
   refine loop_p [3,24,0,23] [0,23] (fun k:Nat=>[(3,.t (.int .i64 ((valN (s.take k):Nat):Int))),(24,.t (.int .i64 (k:Nat)))]) (fun k=>k≤s.length∧(s.take k).all digB=true) (fun k=>s.length - k) 0 (by simp) ⟨Nat.zero_le _,rfl⟩ rfl ?_
   rintro k ⟨hk,hall⟩
   simp -implicitDefEqProofs only [keep,zZ,zA,zB,zC,zD,zE,zG,zH,zI,zJ,zK,if_true,if_false,reduceCtorEq,zW,zX,zY,za,zb]
   refine cond_split (fun h1=>?_) (fun h1=>?_)
   ·obtain ⟨x,hx,hlt⟩:=at_of h1
    have more:=i64_succ (show k<4611686018427387904 by omega)
    have hvb:=val_bnd (s:=s.take k) (by rw [List.length_take]; omega) hall
    clear h1 hh
    have hh:True:=trivial
    rcases hd:digB x with _ | _
    ·have hno:=all_dig_not hx hd
     have hdn:=dig_not hd
     simp -implicitDefEqProofs only [hx,zV,zd,zZ,zA,zB,zC,zD,zE,zG,zH,zI,zJ,zK,if_true,if_false,reduceCtorEq,zW,zX,zY,za,zb]
     repeat' (first
    | ((with_reducible refine cond_known (fun h=>?_) (fun h=>?_)) <;> (replace hh:=And.intro h hh; clear h; simp -implicitDefEqProofs only [hh,cond_t,cond_f,hx,zV,zd,zZ,zA,zB,zC,zD,zE,zG,zH,zI,zJ,zK,if_true,if_false,reduceCtorEq,zW,zX,zY,za,zb]))
    | (exfalso; simp only [Known,decide_eq_true_eq,decide_eq_false_iff_not] at hh; omega)
    | (first | ((with_reducible refine fin0 ?_); refine tb ?_; (try simp only [Known] at hh); simp only [decide_eq_true_eq,decide_eq_false_iff_not] at hh; first | omega | simp [numOk,numI,hno]) | ((with_reducible refine fin ?_ ?_); rotate_left; exact rfl; refine tb ?_; (try simp only [Known] at hh); simp only [decide_eq_true_eq,decide_eq_false_iff_not] at hh; first | omega | simp [numOk,numI,hno])))
    ·obtain ⟨db1,db2⟩:=dig_bnd hd
     have d1:decide ((x.toNat:Int)<48)=false:=by simp; omega
     have d2:decide ((x.toNat:Int) > 57)=false:=by simp; omega
     have a1:IntKind.i64.wrap (10 * ((valN (s.take k):Nat):Int))=((10 * valN (s.take k):Nat):Int):=by rw [IntWalk.i64_in _ (by omega)]; omega
     have a2:=dig_wrap x hd
     have a3:IntKind.i64.wrap (((10 * valN (s.take k):Nat):Int)+((x.toNat - 48:Nat):Int))=((valN (s.take (k+1)):Nat):Int):=by rw [val_step hx,IntWalk.i64_in _ (by omega)]; omega
     simp -implicitDefEqProofs only [hx,zV,zd,d1,d2,a1,a2,a3,more,cond_t,cond_f,zZ,zA,zB,zC,zD,zE,zG,zH,zI,zJ,zK,if_true,if_false,reduceCtorEq,zW,zX,zY,za,zb]
     exact lk_p0 (k+1) (by simp) (by simp) (by omega) ⟨by omega,by rw [take_of hx,List.all_append,hall]; simp [hd]⟩ rfl
   have hkk:=end_of h1 hk
   subst hkk
   rw [List.take_length] at hall
   clear h1 hk
   simp -implicitDefEqProofs only [List.take_length,zZ,zA,zB,zC,zD,zE,zG,zH,zI,zJ,zK,if_true,if_false,reduceCtorEq,zW,zX,zY,za,zb]
   have hr:numI s=decide (valN s≤1000000):=by unfold numI; rw [n0,hall]; simp
   refine fin0 (tb ?_)
   rw [hr]
   exact decide_eq_decide.2 (by omega)
end Go.Proofs.YtnnnemgbgilfaaaDoor.W
end
section
open Go Go.Ab
set_option maxHeartbeats 2000000
namespace Go.Proofs.YtnnnemgbgilfaaaDoor.W
theorem decN_le (n:Nat):(decN n).length≤n+1:=by
 induction n using Nat.strongRecOn with
 | _ n ih =>
 rw [decN]
 split
 ·simp
 ·have:=ih (n / 10) (by omega)
  simp only [zt,zj,zk]
  omega
def c_spec_l38Dec:C:=(.seq (.ops [⟨some 2,none,.mv (.c (.t (.str [])))⟩]) (.seq (.seq (.ops [⟨some 3,none,.mv (.t 0)⟩,⟨some 4,none,.bin .lss (.t 3) (.c (.t (.int .i64 0)))⟩]) (.cond (.t 4) (.seq (.ops [⟨some 5,none,.mv (.t 0)⟩,⟨some 6,none,.un .neg (.t 5)⟩,⟨some 7,none,.call (.c (.fn (.func 84) [])) [.t 6]⟩,⟨some 8,none,.bin .add (.c (.t (.str [45]))) (.t 7)⟩,⟨some 2,none,.mv (.t 8)⟩]) .ret) .skip)) (.seq (.seq (.ops [⟨some 9,none,.mv (.t 0)⟩,⟨some 10,none,.bin .lss (.t 9) (.c (.t (.int .i64 10)))⟩]) (.cond (.t 10) (.seq (.ops [⟨some 11,none,.mv (.t 0)⟩,⟨some 12,none,.bin .add (.c (.t (.int .i64 48))) (.t 11)⟩,⟨some 13,none,.convInt .u8 (.t 12)⟩,⟨some 14,none,.lit none 1 1 [.t (.int .u8 0)] [⟨0,.t 13⟩]⟩,⟨some 15,none,.bytesStr (.t 14)⟩,⟨some 2,none,.mv (.t 15)⟩]) .ret) .skip)) (.seq (.drawn [.mk 0 false ⟨some 16,none,.mv (.t 0)⟩ [],.mk 1 false ⟨some 17,none,.bin .quo (.t 16) (.c (.t (.int .i64 10)))⟩ [],.mk 3 false ⟨some 19,none,.mv (.t 0)⟩ [],.mk 4 false ⟨some 20,none,.bin .rem (.t 19) (.c (.t (.int .i64 10)))⟩ [],.mk 5 false ⟨some 21,none,.bin .add (.c (.t (.int .i64 48))) (.t 20)⟩ [],.mk 6 false ⟨some 22,none,.convInt .u8 (.t 21)⟩ [],.mk 7 false ⟨some 23,none,.lit (some false) 1 1 [.t (.int .u8 0)] [⟨0,.t 22⟩]⟩ [],.mk 8 false ⟨some 24,none,.bytesStr (.t 23)⟩ [],.mk 2 true ⟨some 18,none,.call (.c (.fn (.func 84) [])) [.t 17]⟩ [⟨some 24,none,.bytesStr (.t 23)⟩],.mk 9 false ⟨some 25,none,.bin .add (.t 18) (.t 24)⟩ [],.mk 10 false ⟨some 2,none,.mv (.t 25)⟩ []]) .ret))))
theorem k_spec_l38Dec:comp Tryd.prog 26 (Tryd.f84.body.getD .skip)=some c_spec_l38Dec:=by kernel_rfl
theorem spec_l38Dec:∀ (n:Nat),n<2147483648→∀ σ:Store,ACalls Tryd.prog 84 [.t (.int .i64 ((n:Nat):Int))] σ fun rr σ'=>rr=.t (.str (decN n))∧σ'=σ:=by
 intro n
 induction n using Nat.strongRecOn with
 | _ n ih =>
 intro hn σ
 refine acalls_of Tryd.func84 (by decide +kernel) (code:=Tryd.f84.body.getD .skip) (n:=26) (c:=c_spec_l38Dec) (rs:=[(.tmp 2)]) rfl rfl k_spec_l38Dec (by kernel_rfl) (by simp) (fun hσ=>?_)
 have hh:True:=trivial
 have fin0:∀ {u:V},u=.t (.str (decN n))→retV σ.length (fun rr σ'=>rr=.t (.str (decN n))∧σ'=σ) σ (some [u]):=fun h=>ret_same0 rfl ⟨h,rfl⟩
 have hrow:∀ (s:Store) (c:UInt8),rowsOf s 1 (.rows 1 [[.t (.int .u8 (c.toNat:Int))]])=some [[.t (.int .u8 (c.toNat:Int))]]:=fun s c=>rowsOf_rows rfl
 have hby:∀ c:UInt8,bytesOf [[.t (.int .u8 (c.toNat:Int))]]=some [c]:=fun c=>by simp [bytesOf]
 have d0:decide (((n:Nat):Int)<0)=false:=by simp
 simp -implicitDefEqProofs only [c_spec_l38Dec,d0,cond_t,cond_f,zZ,zA,zB,zC,zD,zE,zG,zH,zI,zJ,zK,if_true,if_false,reduceCtorEq,zW,zX,zY,za,zb]
 have dig:∀ m:Nat,m<10→IntKind.u8.wrap (IntKind.i64.wrap (48+((m:Nat):Int)))=(((UInt8.ofNat (48+m)).toNat:Nat):Int):=fun m hm=>by
  have:∀ m:Fin 10,IntKind.u8.wrap (IntKind.i64.wrap (48+((m.val:Nat):Int)))=(((UInt8.ofNat (48+m.val)).toNat:Nat):Int):=by decide +kernel
  exact this ⟨m,hm⟩
 have c1:0<1:=by omega
 have ofn:∀ c:UInt8,UInt8.ofNat (((c.toNat:Nat):Int)).toNat=c:=fun c=>by simp
 refine cond_split (fun h1=>?_) (fun h1=>?_)
 ·have hn10:n<10:=by have:=of_decide_eq_true h1; omega
  simp -implicitDefEqProofs only [c1,dig n hn10,zZ,zA,zB,zC,zD,zE,zG,zH,zI,zJ,zK,if_true,if_false,reduceCtorEq,zW,zX,zY,za,zb]
  refine lit_rows ?_
  simp -implicitDefEqProofs only [c1,dig n hn10,hrow,hby,zZ,zA,zB,zC,zD,zE,zG,zH,zI,zJ,zK,if_true,if_false,reduceCtorEq,zW,zX,zY,za,zb]
  refine fin0 ?_
  rw [decN,dif_pos hn10]
 ·have hn10:¬ n<10:=by have:=of_decide_eq_false h1; omega
  have e1:((n:Nat):Int).tdiv 10=((n / 10:Nat):Int):=rfl
  have e2:((n:Nat):Int).tmod 10=((n % 10:Nat):Int):=rfl
  have e3:IntKind.i64.wrap (((n / 10:Nat):Int))=((n / 10:Nat):Int):=IntWalk.i64_in _ (by omega)
  have e4:IntKind.i64.wrap (((n % 10:Nat):Int))=((n % 10:Nat):Int):=IntWalk.i64_in _ (by omega)
  have e5:=dig (n % 10) (by omega)
  simp -implicitDefEqProofs only [c1,e1,e2,e3,e4,e5,zZ,zA,zB,zC,zD,zE,zG,zH,zI,zJ,zK,if_true,if_false,reduceCtorEq,zW,zX,zY,za,zb]
  refine And.intro (by decide) (And.intro (by decide) ?_)
  simp -implicitDefEqProofs only [hrow,hby,zZ,zA,zB,zC,zD,zE,zG,zH,zI,zJ,zK,if_true,if_false,reduceCtorEq,zW,zX,zY,za,zb]
  refine call_pure (ih (n / 10) (by omega) (by omega) _) ?_
  have hdl:=decN_le (n / 10)
  simp -implicitDefEqProofs only [zZ,zA,zB,zC,zD,zE,zG,zH,zI,zJ,zK,if_true,if_false,reduceCtorEq,zW,zX,zY,za,zb]
  refine And.intro (by omega) ?_
  refine fin0 ?_
  rw [show decN n=decN (n / 10)++[UInt8.ofNat (48+n % 10)] by rw [decN,dif_neg hn10]]
def c_spec_l38NumberOk:C:=(.seq (.ops [⟨some 2,none,.mv (.c (.t (.bool false)))⟩]) (.seq (.ops [⟨some 3,none,.mv (.c (.t (.int .i64 0)))⟩]) (.seq (.seq (.ops [⟨some 5,none,.mv (.t 0)⟩,⟨some 6,none,.len true (.t 5)⟩,⟨some 7,none,.call (.c (.fn (.func 66) [])) [.t 6,.c (.t (.int .i64 1)),.c (.t (.int .i64 7))]⟩,⟨some 8,none,.un .not (.t 7)⟩]) (.cond (.t 8) (.seq (.ops [⟨some 2,none,.mv (.c (.t (.bool false)))⟩]) .ret) .skip)) (.seq (.seq (.ops [⟨some 4,none,.mv (.c (.t (.int .i64 0)))⟩]) (.block 0 (.loop (.seq (.seq (.ops [⟨some 9,none,.mv (.t 4)⟩,⟨some 10,none,.mv (.t 0)⟩,⟨some 11,none,.len true (.t 10)⟩,⟨some 12,none,.bin .lss (.t 9) (.t 11)⟩]) (.cond (.t 12) .skip (.exit 0))) (.seq (.block 1 (.seq (.seq (.ops [⟨some 15,none,.mv (.t 0)⟩,⟨some 16,none,.mv (.t 4)⟩,⟨some 17,none,.index (.t 15) (.t 16)⟩,⟨some 18,none,.bin .lss (.t 17) (.c (.t (.int .u8 48)))⟩,⟨some 19,none,.mv (.t 18)⟩,⟨some 20,some ⟨19,false⟩,.mv (.t 0)⟩,⟨some 21,some ⟨19,false⟩,.mv (.t 4)⟩,⟨some 22,some ⟨19,false⟩,.index (.t 20) (.t 21)⟩,⟨some 23,some ⟨19,false⟩,.bin .gtr (.t 22) (.c (.t (.int .u8 57)))⟩,⟨some 24,none,.pick (.t 19) (.c (.t (.bool true))) (.t 23)⟩]) (.cond (.t 24) (.seq (.ops [⟨some 2,none,.mv (.c (.t (.bool false)))⟩]) .ret) .skip)) (.ops [⟨some 25,none,.mv (.t 3)⟩,⟨some 26,none,.bin .mul (.t 25) (.c (.t (.int .i64 10)))⟩,⟨some 27,none,.mv (.t 0)⟩,⟨some 28,none,.mv (.t 4)⟩,⟨some 29,none,.index (.t 27) (.t 28)⟩,⟨some 30,none,.bin .sub (.t 29) (.c (.t (.int .u8 48)))⟩,⟨some 31,none,.convInt .i64 (.t 30)⟩,⟨some 32,none,.bin .add (.t 26) (.t 31)⟩,⟨some 3,none,.mv (.t 32)⟩]))) (.ops [⟨some 13,none,.mv (.t 4)⟩,⟨some 14,none,.bin .add (.t 13) (.c (.t (.int .i64 1)))⟩,⟨some 4,none,.mv (.t 14)⟩])))))) (.seq (.ops [⟨some 33,none,.mv (.t 3)⟩,⟨some 34,none,.call (.c (.fn (.func 84) [])) [.t 33]⟩,⟨some 35,none,.mv (.t 0)⟩,⟨some 36,none,.bin .eql (.t 34) (.t 35)⟩,⟨some 37,none,.mv (.t 36)⟩,⟨some 38,some ⟨37,true⟩,.mv (.t 3)⟩,⟨some 39,some ⟨37,true⟩,.bin .leq (.t 38) (.c (.t (.int .i64 1000000)))⟩,⟨some 40,none,.pick (.t 37) (.t 39) (.c (.t (.bool false)))⟩,⟨some 2,none,.mv (.t 40)⟩]) .ret)))))
theorem k_spec_l38NumberOk:comp Tryd.prog 41 (Tryd.f101.body.getD .skip)=some c_spec_l38NumberOk:=by kernel_rfl
theorem spec_l38NumberOk (s:List UInt8) (hs:s.length≤1048576) (σ:Store):ACalls Tryd.prog 101 [.t (.str (s))] σ fun rr σ'=>rr=.t (.bool (numOk s))∧σ'=σ:=by
 refine acalls_of Tryd.func101 (by decide +kernel) (code:=Tryd.f101.body.getD .skip) (n:=41) (c:=c_spec_l38NumberOk) (rs:=[(.tmp 2)]) rfl rfl k_spec_l38NumberOk (by kernel_rfl) (by simp) (fun hσ=>?_)
 have hh:True:=trivial
 have fin:∀ {u:V} {τ:Store},u=.t (.bool (numOk s))→u.lt σ.length=true→retV σ.length (fun rr σ'=>rr=.t (.bool (numOk s))∧σ'=σ) (σ++τ) (some [u]):=fun h h2=>ret_same rfl hσ h2 ⟨h,rfl⟩
 have fin0:∀ {u:V},u=.t (.bool (numOk s))→retV σ.length (fun rr σ'=>rr=.t (.bool (numOk s))∧σ'=σ) σ (some [u]):=fun h=>ret_same0 rfl ⟨h,rfl⟩
 have tr:∀ {u:Bool},numOk s=u→True:=fun _=>trivial
 cases hw:wi s.length 1 7 with
 | false =>
  have hno:numOk s=false:=by
   unfold numOk
   have:(decide (1≤s.length) && decide (s.length≤7))=false:=by rw [← hw]; simp only [wi]; congr 1 <;> exact decide_eq_decide.2 (by omega)
   rw [this]; rfl
  simp -implicitDefEqProofs only [c_spec_l38NumberOk,zZ,zA,zB,zC,zD,zE,zG,zH,zI,zJ,zK,if_true,if_false,reduceCtorEq,zW,zX,zY,za,zb]
  refine call_pure (spec_l37In _ _ _ _) ?_
  simp -implicitDefEqProofs only [hw,cond_t,cond_f,zZ,zA,zB,zC,zD,zE,zG,zH,zI,zJ,zK,if_true,if_false,reduceCtorEq,zW,zX,zY,za,zb]
  exact fin0 (by rw [hno])
 | true =>
 have hs7:1≤s.length∧s.length≤7:=by simp [wi] at hw; omega
 simp -implicitDefEqProofs only [c_spec_l38NumberOk,zZ,zA,zB,zC,zD,zE,zG,zH,zI,zJ,zK,if_true,if_false,reduceCtorEq,zW,zX,zY,za,zb]
 refine call_pure (spec_l37In _ _ _ _) ?_
 simp -implicitDefEqProofs only [hw,cond_t,cond_f,zZ,zA,zB,zC,zD,zE,zG,zH,zI,zJ,zK,if_true,if_false,reduceCtorEq,zW,zX,zY,za,zb]
 refine loop_p [3,4,0] [0] (fun k:Nat=>[(3,.t (.int .i64 ((valN (s.take k):Nat):Int))),(4,.t (.int .i64 (k:Nat)))]) (fun k=>k≤s.length∧(s.take k).all digB=true) (fun k=>s.length - k) 0 (by simp) ⟨Nat.zero_le _,rfl⟩ rfl ?_
 rintro k ⟨hk,hall⟩
 simp -implicitDefEqProofs only [keep,zZ,zA,zB,zC,zD,zE,zG,zH,zI,zJ,zK,if_true,if_false,reduceCtorEq,zW,zX,zY,za,zb]
 refine cond_split (fun h1=>?_) (fun h1=>?_)
 ·obtain ⟨x,hx,hlt⟩:=at_of h1
  have more:=i64_succ (show k<4611686018427387904 by omega)
  have hvb:=val_bnd (s:=s.take k) (by rw [List.length_take]; omega) hall
  clear h1 hh
  have hh:True:=trivial
  rcases hd:digB x with _ | _
  ·have hno:=all_dig_not hx hd
   have hdn:=dig_not hd
   simp -implicitDefEqProofs only [hx,zV,zd,zZ,zA,zB,zC,zD,zE,zG,zH,zI,zJ,zK,if_true,if_false,reduceCtorEq,zW,zX,zY,za,zb]
   repeat' (first
  | ((with_reducible refine cond_known (fun h=>?_) (fun h=>?_)) <;> (replace hh:=And.intro h hh; clear h; simp -implicitDefEqProofs only [hh,cond_t,cond_f,hx,zV,zd,zZ,zA,zB,zC,zD,zE,zG,zH,zI,zJ,zK,if_true,if_false,reduceCtorEq,zW,zX,zY,za,zb]))
  | (exfalso; simp only [Known,decide_eq_true_eq,decide_eq_false_iff_not] at hh; omega)
  | (first | ((with_reducible refine fin0 ?_); refine tb ?_; (try simp only [Known] at hh); simp only [decide_eq_true_eq,decide_eq_false_iff_not] at hh; first | omega | simp [numOk,numI,hno]) | ((with_reducible refine fin ?_ ?_); rotate_left; exact rfl; refine tb ?_; (try simp only [Known] at hh); simp only [decide_eq_true_eq,decide_eq_false_iff_not] at hh; first | omega | simp [numOk,numI,hno])))
  ·obtain ⟨db1,db2⟩:=dig_bnd hd
   have d1:decide ((x.toNat:Int)<48)=false:=by simp; omega
   have d2:decide ((x.toNat:Int) > 57)=false:=by simp; omega
   have a1:IntKind.i64.wrap (((valN (s.take k):Nat):Int) * 10)=((10 * valN (s.take k):Nat):Int):=by rw [IntWalk.i64_in _ (by omega)]; omega
   have a2:=dig_wrap x hd
   have a3:IntKind.i64.wrap (((10 * valN (s.take k):Nat):Int)+((x.toNat - 48:Nat):Int))=((valN (s.take (k+1)):Nat):Int):=by rw [val_step hx,IntWalk.i64_in _ (by omega)]; omega
   simp -implicitDefEqProofs only [hx,zV,zd,d1,d2,a1,a2,a3,more,cond_t,cond_f,zZ,zA,zB,zC,zD,zE,zG,zH,zI,zJ,zK,if_true,if_false,reduceCtorEq,zW,zX,zY,za,zb]
   exact lk_p0 (k+1) (by simp) (by simp) (by omega) ⟨by omega,by rw [take_of hx,List.all_append,hall]; simp [hd]⟩ rfl
 have hkk:=end_of h1 hk
 subst hkk
 rw [List.take_length] at hall
 clear h1 hk
 simp -implicitDefEqProofs only [List.take_length,zZ,zA,zB,zC,zD,zE,zG,zH,zI,zJ,zK,if_true,if_false,reduceCtorEq,zW,zX,zY,za,zb]
 have hvb:=val_bnd hs7.2 hall
 have hr:numOk s=(decN (valN s) == s && decide (((valN s:Nat):Int)≤1000000)):=by
  unfold numOk
  rw [hall,decide_eq_true hs7.1,decide_eq_true hs7.2]
  simp only [Bool.true_and]
  congr 1
  exact decide_eq_decide.2 (by omega)
 refine call_pure (spec_l38Dec (valN s) (by omega) _) ?_
 simp -implicitDefEqProofs only [zZ,zA,zB,zC,zD,zE,zG,zH,zI,zJ,zK,if_true,if_false,reduceCtorEq,zW,zX,zY,za,zb]
 repeat' (first
  | ((with_reducible refine cond_known (fun h=>?_) (fun h=>?_)) <;> (replace hh:=And.intro h hh; clear h; simp -implicitDefEqProofs only [hh,cond_t,cond_f,zZ,zA,zB,zC,zD,zE,zG,zH,zI,zJ,zK,if_true,if_false,reduceCtorEq,zW,zX,zY,za,zb]))
  | (first | ((with_reducible refine fin0 ?_); refine tb ?_; (try simp only [Known] at hh); rw [hr,hh.1]; simp) | ((with_reducible refine fin ?_ ?_); rotate_left; exact rfl; refine tb ?_; (try simp only [Known] at hh); rw [hr,hh.1]; simp)))
def begs (s p:List UInt8):Bool:=decide (p.length≤s.length) && s.take p.length == p
def c_internal_stringslite_HasPrefix:C:=(.seq (.ops [⟨some 4,none,.mv (.c (.t (.bool false)))⟩]) (.seq (.ops [⟨some 5,none,.mv (.t 0)⟩,⟨some 6,none,.len true (.t 5)⟩,⟨some 7,none,.mv (.t 1)⟩,⟨some 8,none,.len true (.t 7)⟩,⟨some 9,none,.bin .geq (.t 6) (.t 8)⟩,⟨some 10,none,.mv (.t 9)⟩,⟨some 11,some ⟨10,true⟩,.mv (.t 0)⟩,⟨some 12,some ⟨10,true⟩,.mv (.t 1)⟩,⟨some 13,some ⟨10,true⟩,.len true (.t 12)⟩,⟨some 14,some ⟨10,true⟩,.sliceStr (.t 11) none (some (.t 13))⟩,⟨some 15,some ⟨10,true⟩,.mv (.t 1)⟩,⟨some 16,some ⟨10,true⟩,.bin .eql (.t 14) (.t 15)⟩,⟨some 17,none,.pick (.t 10) (.t 16) (.c (.t (.bool false)))⟩,⟨some 4,none,.mv (.t 17)⟩]) .ret))
theorem k_internal_stringslite_HasPrefix:comp Tryd.prog 18 (Tryd.f123.body.getD .skip)=some c_internal_stringslite_HasPrefix:=by kernel_rfl
theorem internal_stringslite_HasPrefix (s p:List UInt8)  (σ:Store):ACalls Tryd.prog 123 [.t (.str (s)),.t (.str (p))] σ fun rr σ'=>rr=.t (.bool (begs s p))∧σ'=σ:=by
 refine acalls_of Tryd.func123 (by decide +kernel) (code:=Tryd.f123.body.getD .skip) (n:=18) (c:=c_internal_stringslite_HasPrefix) (rs:=[(.tmp 4)]) rfl rfl k_internal_stringslite_HasPrefix (by kernel_rfl) (by simp) (fun hσ=>?_)
 have hh:True:=trivial
 have fin:∀ {u:V} {τ:Store},u=.t (.bool (begs s p))→u.lt σ.length=true→retV σ.length (fun rr σ'=>rr=.t (.bool (begs s p))∧σ'=σ) (σ++τ) (some [u]):=fun h h2=>ret_same rfl hσ h2 ⟨h,rfl⟩
 have fin0:∀ {u:V},u=.t (.bool (begs s p))→retV σ.length (fun rr σ'=>rr=.t (.bool (begs s p))∧σ'=σ) σ (some [u]):=fun h=>ret_same0 rfl ⟨h,rfl⟩
 by_cases hc:p.length≤s.length
 ·have h1:decide ((s.length:Int) ≥ (p.length:Int))=true:=by simp; omega
  have h2:(p.length:Int)≤s.length:=by omega
  have h3:begs s p=(s.take p.length == p):=by simp [begs,hc]
  simp -implicitDefEqProofs only [c_internal_stringslite_HasPrefix,h1,hc,zV,zd,cond_t,cond_f,Int.toNat_natCast,List.drop_zero,zZ,zA,zB,zC,zD,zE,zG,zH,zI,zJ,zK,if_true,if_false,reduceCtorEq,zW,zX,zY,za,zb]
  (first | ((with_reducible refine fin0 ?_); refine tb ?_; (try simp only [Known] at hh); first | (rw [h3]; rfl) | (rw [h3]; done)) | ((with_reducible refine fin ?_ ?_); rotate_left; exact rfl; refine tb ?_; (try simp only [Known] at hh); first | (rw [h3]; rfl) | (rw [h3]; done)))
 ·have h1:decide ((s.length:Int) ≥ (p.length:Int))=false:=by simp; omega
  have h3:begs s p=false:=by simp [begs,hc]
  simp -implicitDefEqProofs only [c_internal_stringslite_HasPrefix,h1,cond_t,cond_f,zZ,zA,zB,zC,zD,zE,zG,zH,zI,zJ,zK,if_true,if_false,reduceCtorEq,zW,zX,zY,za,zb]
  (first | ((with_reducible refine fin0 ?_); refine tb ?_; (try simp only [Known] at hh); exact h3.symm) | ((with_reducible refine fin ?_ ?_); rotate_left; exact rfl; refine tb ?_; (try simp only [Known] at hh); exact h3.symm))
def c_internal_stringslite_CutPrefix:C:=(.seq (.ops [⟨some 4,none,.mv (.c (.t (.str [])))⟩,⟨some 5,none,.mv (.c (.t (.bool false)))⟩]) (.seq (.seq (.ops [⟨some 6,none,.mv (.t 0)⟩,⟨some 7,none,.mv (.t 1)⟩,⟨some 8,none,.call (.c (.fn (.func 123) [])) [.t 6,.t 7]⟩,⟨some 9,none,.un .not (.t 8)⟩]) (.cond (.t 9) (.seq (.ops [⟨some 10,none,.mv (.t 0)⟩,⟨some 4,none,.mv (.t 10)⟩,⟨some 5,none,.mv (.c (.t (.bool false)))⟩]) .ret) .skip)) (.seq (.ops [⟨some 11,none,.mv (.t 0)⟩,⟨some 12,none,.mv (.t 1)⟩,⟨some 13,none,.len true (.t 12)⟩,⟨some 14,none,.sliceStr (.t 11) (some (.t 13)) none⟩,⟨some 4,none,.mv (.t 14)⟩,⟨some 5,none,.mv (.c (.t (.bool true)))⟩]) .ret)))
theorem k_internal_stringslite_CutPrefix:comp Tryd.prog 15 (Tryd.f113.body.getD .skip)=some c_internal_stringslite_CutPrefix:=by kernel_rfl
theorem internal_stringslite_CutPrefix (s p:List UInt8)  (σ:Store):ACalls Tryd.prog 113 [.t (.str (s)),.t (.str (p))] σ fun rr σ'=>rr=.tup [.t (.str (if begs s p then s.drop p.length else s)),.t (.bool (begs s p))]∧σ'=σ:=by
 refine acalls_of Tryd.func113 (by decide +kernel) (code:=Tryd.f113.body.getD .skip) (n:=15) (c:=c_internal_stringslite_CutPrefix) (rs:=[(.tmp 4),(.tmp 5)]) rfl rfl k_internal_stringslite_CutPrefix (by kernel_rfl) (by simp) (fun hσ=>?_)
 have hh:True:=trivial
 have fin:∀ {u:V} {τ:Store},u=.tup [.t (.str (if begs s p then s.drop p.length else s)),.t (.bool (begs s p))]→u.lt σ.length=true→retV σ.length (fun rr σ'=>rr=.tup [.t (.str (if begs s p then s.drop p.length else s)),.t (.bool (begs s p))]∧σ'=σ) (σ++τ) (some [u]):=fun h h2=>ret_same rfl hσ h2 ⟨h,rfl⟩
 have fin0:∀ {u:V},u=.tup [.t (.str (if begs s p then s.drop p.length else s)),.t (.bool (begs s p))]→retV σ.length (fun rr σ'=>rr=.tup [.t (.str (if begs s p then s.drop p.length else s)),.t (.bool (begs s p))]∧σ'=σ) σ (some [u]):=fun h=>ret_same0 rfl ⟨h,rfl⟩
 simp -implicitDefEqProofs only [c_internal_stringslite_CutPrefix,zZ,zA,zB,zC,zD,zE,zG,zH,zI,zJ,zK,if_true,if_false,reduceCtorEq,zW,zX,zY,za,zb]
 refine call_pure (internal_stringslite_HasPrefix s p _) ?_
 cases hb:begs s p with
 | false =>
  simp -implicitDefEqProofs only [hb,cond_t,cond_f,zZ,zA,zB,zC,zD,zE,zG,zH,zI,zJ,zK,if_true,if_false,reduceCtorEq,zW,zX,zY,za,zb]
  exact ret_same0 rfl ⟨rfl,rfl⟩
 | true =>
  have hl:p.length≤s.length:=by
   simp only [begs,yB,decide_eq_true_eq] at hb
   exact hb.1
  simp -implicitDefEqProofs only [hb,hl,zV,zd,cond_t,cond_f,List.take_length,zZ,zA,zB,zC,zD,zE,zG,zH,zI,zJ,zK,if_true,if_false,reduceCtorEq,zW,zX,zY,za,zb]
  exact ret_same0 rfl ⟨rfl,rfl⟩
def c_strings_CutPrefix:C:=(.seq (.ops [⟨some 4,none,.mv (.c (.t (.str [])))⟩,⟨some 5,none,.mv (.c (.t (.bool false)))⟩]) (.seq (.ops [⟨some 6,none,.mv (.t 0)⟩,⟨some 7,none,.mv (.t 1)⟩,⟨some 8,none,.call (.c (.fn (.func 113) [])) [.t 6,.t 7]⟩,⟨some 9,none,.extract (.t 8) 0⟩,⟨some 10,none,.extract (.t 8) 1⟩,⟨some 4,none,.mv (.t 9)⟩,⟨some 5,none,.mv (.t 10)⟩]) .ret))
theorem k_strings_CutPrefix:comp Tryd.prog 11 (Tryd.f103.body.getD .skip)=some c_strings_CutPrefix:=by kernel_rfl
theorem strings_CutPrefix (s p:List UInt8)  (σ:Store):ACalls Tryd.prog 103 [.t (.str (s)),.t (.str (p))] σ fun rr σ'=>rr=.tup [.t (.str (if begs s p then s.drop p.length else s)),.t (.bool (begs s p))]∧σ'=σ:=by
 refine acalls_of Tryd.func103 (by decide +kernel) (code:=Tryd.f103.body.getD .skip) (n:=11) (c:=c_strings_CutPrefix) (rs:=[(.tmp 4),(.tmp 5)]) rfl rfl k_strings_CutPrefix (by kernel_rfl) (by simp) (fun hσ=>?_)
 have hh:True:=trivial
 have fin:∀ {u:V} {τ:Store},u=.tup [.t (.str (if begs s p then s.drop p.length else s)),.t (.bool (begs s p))]→u.lt σ.length=true→retV σ.length (fun rr σ'=>rr=.tup [.t (.str (if begs s p then s.drop p.length else s)),.t (.bool (begs s p))]∧σ'=σ) (σ++τ) (some [u]):=fun h h2=>ret_same rfl hσ h2 ⟨h,rfl⟩
 have fin0:∀ {u:V},u=.tup [.t (.str (if begs s p then s.drop p.length else s)),.t (.bool (begs s p))]→retV σ.length (fun rr σ'=>rr=.tup [.t (.str (if begs s p then s.drop p.length else s)),.t (.bool (begs s p))]∧σ'=σ) σ (some [u]):=fun h=>ret_same0 rfl ⟨h,rfl⟩
 simp -implicitDefEqProofs only [c_strings_CutPrefix,zZ,zA,zB,zC,zD,zE,zG,zH,zI,zJ,zK,if_true,if_false,reduceCtorEq,zW,zX,zY,za,zb]
 refine call_pure (internal_stringslite_CutPrefix s p _) ?_
 simp -implicitDefEqProofs only [zZ,zA,zB,zC,zD,zE,zG,zH,zI,zJ,zK,if_true,if_false,reduceCtorEq,zW,zX,zY,za,zb]
 exact ret_same0 rfl ⟨rfl,rfl⟩
def typeOk (t:Int) (s:List UInt8):Bool :=
 if t=1 then numOk s else if t=2 then (numOk s || (decide (1<s.length) && (s[0]?.getD 0 == 45) && !(s.drop 1 == [48]) && numOk (s.drop 1)))
 else if t=3 then nameS s else if t=4 then decide (s.length≤200) else if t=5 then (s == [121,101,115] || s == [110,111]) else (s == [110,111,110,101] || s == [98,101,114,116,104] || s == [122,111,110,101])
theorem num_minus (s:List UInt8):numOk (45::s)=false:=by
 have:(45::s).all digB=false:=by simp [digB]
 unfold numOk
 rw [this]
 simp
theorem signed_eq (s:List UInt8):(numI (if begs s [45] then s.drop 1 else s) && !(begs s [45] && ((if begs s [45] then s.drop 1 else s) == [48])))=typeOk 2 s:=by
 simp only [num_eq]
 match s with
 | []=>decide
 | c::r =>
  by_cases hc:c=45
  ·subst hc
   have hb:begs (45::r) [45]=true:=by simp [begs]
   simp only [hb,if_true,typeOk,num_minus,zz,List.drop_zero]
   cases r with
   | nil=>decide
   | cons d r=>simp; grind
  ·have hb:begs (c::r) [45]=false:=by simp [begs,hc]
   simp [hb,typeOk,hc]
end Go.Proofs.YtnnnemgbgilfaaaDoor.W
end
section
open Go Go.Ab
set_option maxHeartbeats 2000000
namespace Go.Proofs.YtnnnemgbgilfaaaDoor.W
theorem ty4 (s:List UInt8):typeOk 4 s=decide (s.length≤200):=rfl
theorem ty5 (s:List UInt8):typeOk 5 s=(s == [121,101,115] || s == [110,111]):=rfl
theorem ty6 (s:List UInt8):typeOk 6 s=(s == [110,111,110,101] || s == [98,101,114,116,104] || s == [122,111,110,101]):=rfl
theorem ty2 (s:List UInt8):typeOk 2 s=(numOk s || (decide (1<s.length) && (s[0]?.getD 0 == 45) && !(s.drop 1 == [48]) && numOk (s.drop 1))):=rfl
def c_impl_isType:C:=(.seq (.ops [⟨some 4,none,.mv (.c (.t (.bool false)))⟩]) (.seq (.seq (.ops [⟨some 7,none,.mv (.t 0)⟩]) (.block 0 (.seq (.ops [⟨some 9,none,.bin .eql (.t 7) (.c (.t (.int .i64 1)))⟩,⟨some 8,none,.mv (.t 9)⟩]) (.cond (.t 8) (.seq (.ops [⟨some 10,none,.mv (.t 1)⟩,⟨some 11,none,.call (.c (.fn (.func 102) [])) [.t 10]⟩,⟨some 4,none,.mv (.t 11)⟩]) .ret) (.seq (.ops [⟨some 13,none,.bin .eql (.t 7) (.c (.t (.int .i64 2)))⟩,⟨some 12,none,.mv (.t 13)⟩]) (.cond (.t 12) (.seq (.ops [⟨some 15,none,.mv (.t 1)⟩,⟨some 16,none,.call (.c (.fn (.func 103) [])) [.t 15,.c (.t (.str [45]))]⟩,⟨some 14,none,.mv (.t 16)⟩,⟨some 17,none,.extract (.t 14) 0⟩,⟨some 18,none,.extract (.t 14) 1⟩,⟨some 5,none,.mv (.t 17)⟩,⟨some 6,none,.mv (.t 18)⟩]) (.seq (.ops [⟨some 19,none,.mv (.t 5)⟩,⟨some 20,none,.call (.c (.fn (.func 102) [])) [.t 19]⟩,⟨some 21,none,.mv (.t 20)⟩,⟨some 22,some ⟨21,true⟩,.mv (.t 6)⟩,⟨some 23,some ⟨21,true⟩,.mv (.t 22)⟩,⟨some 24,some ⟨23,true⟩,.mv (.t 5)⟩,⟨some 25,some ⟨23,true⟩,.bin .eql (.t 24) (.c (.t (.str [48])))⟩,⟨some 26,some ⟨21,true⟩,.pick (.t 23) (.t 25) (.c (.t (.bool false)))⟩,⟨some 27,some ⟨21,true⟩,.un .not (.t 26)⟩,⟨some 28,none,.pick (.t 21) (.t 27) (.c (.t (.bool false)))⟩,⟨some 4,none,.mv (.t 28)⟩]) .ret)) (.seq (.ops [⟨some 30,none,.bin .eql (.t 7) (.c (.t (.int .i64 3)))⟩,⟨some 29,none,.mv (.t 30)⟩]) (.cond (.t 29) (.seq (.ops [⟨some 31,none,.mv (.t 1)⟩,⟨some 32,none,.call (.c (.fn (.func 68) [])) [.t 31]⟩,⟨some 4,none,.mv (.t 32)⟩]) .ret) (.seq (.ops [⟨some 34,none,.bin .eql (.t 7) (.c (.t (.int .i64 4)))⟩,⟨some 33,none,.mv (.t 34)⟩]) (.cond (.t 33) (.seq (.ops [⟨some 35,none,.mv (.t 1)⟩,⟨some 36,none,.len true (.t 35)⟩,⟨some 37,none,.bin .leq (.t 36) (.c (.t (.int .i64 200)))⟩,⟨some 4,none,.mv (.t 37)⟩]) .ret) (.seq (.ops [⟨some 39,none,.bin .eql (.t 7) (.c (.t (.int .i64 5)))⟩,⟨some 38,none,.mv (.t 39)⟩]) (.cond (.t 38) (.seq (.ops [⟨some 40,none,.mv (.t 1)⟩,⟨some 41,none,.bin .eql (.t 40) (.c (.t (.str [121,101,115])))⟩,⟨some 42,none,.mv (.t 41)⟩,⟨some 43,some ⟨42,false⟩,.mv (.t 1)⟩,⟨some 44,some ⟨42,false⟩,.bin .eql (.t 43) (.c (.t (.str [110,111])))⟩,⟨some 45,none,.pick (.t 42) (.c (.t (.bool true))) (.t 44)⟩,⟨some 4,none,.mv (.t 45)⟩]) .ret) .skip)))))))))))) (.seq (.ops [⟨some 46,none,.mv (.t 1)⟩,⟨some 47,none,.bin .eql (.t 46) (.c (.t (.str [110,111,110,101])))⟩,⟨some 48,none,.mv (.t 47)⟩,⟨some 49,some ⟨48,false⟩,.mv (.t 1)⟩,⟨some 50,some ⟨48,false⟩,.bin .eql (.t 49) (.c (.t (.str [98,101,114,116,104])))⟩,⟨some 51,none,.pick (.t 48) (.c (.t (.bool true))) (.t 50)⟩,⟨some 52,none,.mv (.t 51)⟩,⟨some 53,some ⟨52,false⟩,.mv (.t 1)⟩,⟨some 54,some ⟨52,false⟩,.bin .eql (.t 53) (.c (.t (.str [122,111,110,101])))⟩,⟨some 55,none,.pick (.t 52) (.c (.t (.bool true))) (.t 54)⟩,⟨some 4,none,.mv (.t 55)⟩]) .ret)))
theorem k_impl_isType:comp Tryd.prog 56 (Tryd.f87.body.getD .skip)=some c_impl_isType:=by kernel_rfl
theorem impl_isType (t:Int) (s:List UInt8) (ht:1≤t∧t≤6) (hs:s.length≤1048576) (σ:Store):ACalls Tryd.prog 87 [.t (.int .i64 (t)),.t (.str (s))] σ fun rr σ'=>rr=.t (.bool (typeOk t s))∧σ'=σ:=by
 refine acalls_of Tryd.func87 (by decide +kernel) (code:=Tryd.f87.body.getD .skip) (n:=56) (c:=c_impl_isType) (rs:=[(.tmp 4)]) rfl rfl k_impl_isType (by kernel_rfl) (by simp) (fun hσ=>?_)
 have hh:True:=trivial
 have fin:∀ {u:V} {τ:Store},u=.t (.bool (typeOk t s))→u.lt σ.length=true→retV σ.length (fun rr σ'=>rr=.t (.bool (typeOk t s))∧σ'=σ) (σ++τ) (some [u]):=fun h h2=>ret_same rfl hσ h2 ⟨h,rfl⟩
 have fin0:∀ {u:V},u=.t (.bool (typeOk t s))→retV σ.length (fun rr σ'=>rr=.t (.bool (typeOk t s))∧σ'=σ) σ (some [u]):=fun h=>ret_same0 rfl ⟨h,rfl⟩
 obtain rfl | rfl | rfl | rfl | rfl | rfl:t=1∨t=2∨t=3∨t=4∨t=5∨t=6:=by omega
 ·simp -implicitDefEqProofs only [c_impl_isType,Int.reduceBEq,cond_t,cond_f,zZ,zA,zB,zC,zD,zE,zG,zH,zI,zJ,zK,if_true,if_false,reduceCtorEq,zW,zX,zY,za,zb]
  repeat' (first
    | ((with_reducible refine cond_known (fun h=>?_) (fun h=>?_)) <;> (replace hh:=And.intro h hh; clear h; simp -implicitDefEqProofs only [hh,cond_t,cond_f,Int.reduceBEq,cond_t,cond_f,zZ,zA,zB,zC,zD,zE,zG,zH,zI,zJ,zK,if_true,if_false,reduceCtorEq,zW,zX,zY,za,zb]))
    | ((with_reducible refine call_pure (impl_isNumber s hs _) ?_); simp -implicitDefEqProofs only [hh,cond_t,cond_f,Int.reduceBEq,cond_t,cond_f,zZ,zA,zB,zC,zD,zE,zG,zH,zI,zJ,zK,if_true,if_false,reduceCtorEq,zW,zX,zY,za,zb])
    | (first | ((with_reducible refine fin0 ?_); refine tb ?_; (try simp only [Known] at hh); rw [num_eq]; rfl) | ((with_reducible refine fin ?_ ?_); rotate_left; exact rfl; refine tb ?_; (try simp only [Known] at hh); rw [num_eq]; rfl)))
 ·simp -implicitDefEqProofs only [c_impl_isType,Int.reduceBEq,cond_t,cond_f,zZ,zA,zB,zC,zD,zE,zG,zH,zI,zJ,zK,if_true,if_false,reduceCtorEq,zW,zX,zY,za,zb]
  refine call_pure (strings_CutPrefix s [45] _) ?_
  have hl:(if begs s [45]=true then s.drop ([45]:List UInt8).length else s).length≤1048576:=by
   split
   ·rw [List.length_drop]; omega
   ·exact hs
  simp -implicitDefEqProofs only [Int.reduceBEq,cond_t,cond_f,zZ,zA,zB,zC,zD,zE,zG,zH,zI,zJ,zK,if_true,if_false,reduceCtorEq,zW,zX,zY,za,zb]
  refine call_pure (impl_isNumber _ hl _) ?_
  have hse:=signed_eq s
  simp only [zj,zk] at hl ⊢
  rw [show (0:Nat)+1=1 from rfl] at *
  generalize (if begs s [45]=true then s.drop 1 else s)=r at *
  simp -implicitDefEqProofs only [Int.reduceBEq,cond_t,cond_f,zZ,zA,zB,zC,zD,zE,zG,zH,zI,zJ,zK,if_true,if_false,reduceCtorEq,zW,zX,zY,za,zb]
  repeat' (first
    | ((with_reducible refine cond_known (fun h=>?_) (fun h=>?_)) <;> (replace hh:=And.intro h hh; clear h; simp -implicitDefEqProofs only [hh,cond_t,cond_f,Int.reduceBEq,cond_t,cond_f,zZ,zA,zB,zC,zD,zE,zG,zH,zI,zJ,zK,if_true,if_false,reduceCtorEq,zW,zX,zY,za,zb]))
    | (first | ((with_reducible refine fin0 ?_); refine tb ?_; (try simp only [Known] at hh); rw [← hse]; first | rfl | grind) | ((with_reducible refine fin ?_ ?_); rotate_left; exact rfl; refine tb ?_; (try simp only [Known] at hh); rw [← hse]; first | rfl | grind)))
 ·simp -implicitDefEqProofs only [c_impl_isType,Int.reduceBEq,cond_t,cond_f,zZ,zA,zB,zC,zD,zE,zG,zH,zI,zJ,zK,if_true,if_false,reduceCtorEq,zW,zX,zY,za,zb]
  repeat' (first
    | ((with_reducible refine cond_known (fun h=>?_) (fun h=>?_)) <;> (replace hh:=And.intro h hh; clear h; simp -implicitDefEqProofs only [hh,cond_t,cond_f,Int.reduceBEq,cond_t,cond_f,zZ,zA,zB,zC,zD,zE,zG,zH,zI,zJ,zK,if_true,if_false,reduceCtorEq,zW,zX,zY,za,zb]))
    | ((with_reducible refine call_pure (impl_isName_sheet s hs _) ?_); simp -implicitDefEqProofs only [hh,cond_t,cond_f,Int.reduceBEq,cond_t,cond_f,zZ,zA,zB,zC,zD,zE,zG,zH,zI,zJ,zK,if_true,if_false,reduceCtorEq,zW,zX,zY,za,zb])
    | (first | ((with_reducible refine fin0 ?_); refine tb ?_; (try simp only [Known] at hh); rfl) | ((with_reducible refine fin ?_ ?_); rotate_left; exact rfl; refine tb ?_; (try simp only [Known] at hh); rfl)))
 ·simp -implicitDefEqProofs only [c_impl_isType,Int.reduceBEq,cond_t,cond_f,zZ,zA,zB,zC,zD,zE,zG,zH,zI,zJ,zK,if_true,if_false,reduceCtorEq,zW,zX,zY,za,zb]
  repeat' (first
    | ((with_reducible refine cond_known (fun h=>?_) (fun h=>?_)) <;> (replace hh:=And.intro h hh; clear h; simp -implicitDefEqProofs only [hh,cond_t,cond_f,Int.reduceBEq,cond_t,cond_f,zZ,zA,zB,zC,zD,zE,zG,zH,zI,zJ,zK,if_true,if_false,reduceCtorEq,zW,zX,zY,za,zb]))
    | (first | ((with_reducible refine fin0 ?_); refine tb ?_; (try simp only [Known] at hh); rw [ty4]; exact decide_eq_decide.2 (by omega)) | ((with_reducible refine fin ?_ ?_); rotate_left; exact rfl; refine tb ?_; (try simp only [Known] at hh); rw [ty4]; exact decide_eq_decide.2 (by omega))))
 ·simp -implicitDefEqProofs only [c_impl_isType,Int.reduceBEq,cond_t,cond_f,zZ,zA,zB,zC,zD,zE,zG,zH,zI,zJ,zK,if_true,if_false,reduceCtorEq,zW,zX,zY,za,zb]
  repeat' (first
    | ((with_reducible refine cond_known (fun h=>?_) (fun h=>?_)) <;> (replace hh:=And.intro h hh; clear h; simp -implicitDefEqProofs only [hh,cond_t,cond_f,Int.reduceBEq,cond_t,cond_f,zZ,zA,zB,zC,zD,zE,zG,zH,zI,zJ,zK,if_true,if_false,reduceCtorEq,zW,zX,zY,za,zb]))
    | (first | ((with_reducible refine fin0 ?_); refine tb ?_; (try simp only [Known] at hh); rw [ty5]; grind) | ((with_reducible refine fin ?_ ?_); rotate_left; exact rfl; refine tb ?_; (try simp only [Known] at hh); rw [ty5]; grind)))
 ·simp -implicitDefEqProofs only [c_impl_isType,Int.reduceBEq,cond_t,cond_f,zZ,zA,zB,zC,zD,zE,zG,zH,zI,zJ,zK,if_true,if_false,reduceCtorEq,zW,zX,zY,za,zb]
  repeat' (first
    | ((with_reducible refine cond_known (fun h=>?_) (fun h=>?_)) <;> (replace hh:=And.intro h hh; clear h; simp -implicitDefEqProofs only [hh,cond_t,cond_f,Int.reduceBEq,cond_t,cond_f,zZ,zA,zB,zC,zD,zE,zG,zH,zI,zJ,zK,if_true,if_false,reduceCtorEq,zW,zX,zY,za,zb]))
    | (first | ((with_reducible refine fin0 ?_); refine tb ?_; (try simp only [Known] at hh); rw [ty6]; grind) | ((with_reducible refine fin ?_ ?_); rotate_left; exact rfl; refine tb ?_; (try simp only [Known] at hh); rw [ty6]; grind)))
def c_spec_l38Fits:C:=(.seq (.ops [⟨some 4,none,.mv (.c (.t (.bool false)))⟩]) (.seq (.seq (.ops [⟨some 5,none,.mv (.t 0)⟩]) (.block 0 (.seq (.ops [⟨some 7,none,.bin .eql (.t 5) (.c (.t (.int .i64 1)))⟩,⟨some 6,none,.mv (.t 7)⟩]) (.cond (.t 6) (.seq (.ops [⟨some 8,none,.mv (.t 1)⟩,⟨some 9,none,.call (.c (.fn (.func 101) [])) [.t 8]⟩,⟨some 4,none,.mv (.t 9)⟩]) .ret) (.seq (.ops [⟨some 11,none,.bin .eql (.t 5) (.c (.t (.int .i64 2)))⟩,⟨some 10,none,.mv (.t 11)⟩]) (.cond (.t 10) (.seq (.ops [⟨some 12,none,.mv (.t 1)⟩,⟨some 13,none,.call (.c (.fn (.func 101) [])) [.t 12]⟩,⟨some 14,none,.mv (.t 13)⟩,⟨some 15,some ⟨14,false⟩,.mv (.t 1)⟩,⟨some 16,some ⟨14,false⟩,.len true (.t 15)⟩,⟨some 17,some ⟨14,false⟩,.bin .gtr (.t 16) (.c (.t (.int .i64 1)))⟩,⟨some 18,some ⟨14,false⟩,.mv (.t 17)⟩,⟨some 19,some ⟨18,true⟩,.mv (.t 1)⟩,⟨some 20,some ⟨18,true⟩,.index (.t 19) (.c (.t (.int .i64 0)))⟩,⟨some 21,some ⟨18,true⟩,.bin .eql (.t 20) (.c (.t (.int .u8 45)))⟩,⟨some 22,some ⟨14,false⟩,.pick (.t 18) (.t 21) (.c (.t (.bool false)))⟩,⟨some 23,some ⟨14,false⟩,.mv (.t 22)⟩,⟨some 24,some ⟨23,true⟩,.mv (.t 1)⟩,⟨some 25,some ⟨23,true⟩,.sliceStr (.t 24) (some (.c (.t (.int .i64 1)))) none⟩,⟨some 26,some ⟨23,true⟩,.bin .neq (.t 25) (.c (.t (.str [48])))⟩,⟨some 27,some ⟨14,false⟩,.pick (.t 23) (.t 26) (.c (.t (.bool false)))⟩,⟨some 28,some ⟨14,false⟩,.mv (.t 27)⟩,⟨some 29,some ⟨28,true⟩,.mv (.t 1)⟩,⟨some 30,some ⟨28,true⟩,.sliceStr (.t 29) (some (.c (.t (.int .i64 1)))) none⟩,⟨some 31,some ⟨28,true⟩,.call (.c (.fn (.func 101) [])) [.t 30]⟩,⟨some 32,some ⟨14,false⟩,.pick (.t 28) (.t 31) (.c (.t (.bool false)))⟩,⟨some 33,none,.pick (.t 14) (.c (.t (.bool true))) (.t 32)⟩,⟨some 4,none,.mv (.t 33)⟩]) .ret) (.seq (.ops [⟨some 35,none,.bin .eql (.t 5) (.c (.t (.int .i64 3)))⟩,⟨some 34,none,.mv (.t 35)⟩]) (.cond (.t 34) (.seq (.ops [⟨some 36,none,.mv (.t 1)⟩,⟨some 37,none,.call (.c (.fn (.func 38) [])) [.t 36]⟩,⟨some 4,none,.mv (.t 37)⟩]) .ret) (.seq (.ops [⟨some 39,none,.bin .eql (.t 5) (.c (.t (.int .i64 5)))⟩,⟨some 38,none,.mv (.t 39)⟩]) (.cond (.t 38) (.seq (.ops [⟨some 40,none,.mv (.t 1)⟩,⟨some 41,none,.bin .eql (.t 40) (.c (.t (.str [121,101,115])))⟩,⟨some 42,none,.mv (.t 41)⟩,⟨some 43,some ⟨42,false⟩,.mv (.t 1)⟩,⟨some 44,some ⟨42,false⟩,.bin .eql (.t 43) (.c (.t (.str [110,111])))⟩,⟨some 45,none,.pick (.t 42) (.c (.t (.bool true))) (.t 44)⟩,⟨some 4,none,.mv (.t 45)⟩]) .ret) (.seq (.ops [⟨some 47,none,.bin .eql (.t 5) (.c (.t (.int .i64 6)))⟩,⟨some 46,none,.mv (.t 47)⟩]) (.cond (.t 46) (.seq (.ops [⟨some 48,none,.mv (.t 1)⟩,⟨some 49,none,.bin .eql (.t 48) (.c (.t (.str [110,111,110,101])))⟩,⟨some 50,none,.mv (.t 49)⟩,⟨some 51,some ⟨50,false⟩,.mv (.t 1)⟩,⟨some 52,some ⟨50,false⟩,.bin .eql (.t 51) (.c (.t (.str [98,101,114,116,104])))⟩,⟨some 53,none,.pick (.t 50) (.c (.t (.bool true))) (.t 52)⟩,⟨some 54,none,.mv (.t 53)⟩,⟨some 55,some ⟨54,false⟩,.mv (.t 1)⟩,⟨some 56,some ⟨54,false⟩,.bin .eql (.t 55) (.c (.t (.str [122,111,110,101])))⟩,⟨some 57,none,.pick (.t 54) (.c (.t (.bool true))) (.t 56)⟩,⟨some 4,none,.mv (.t 57)⟩]) .ret) .skip)))))))))))) (.seq (.ops [⟨some 58,none,.mv (.t 1)⟩,⟨some 59,none,.len true (.t 58)⟩,⟨some 60,none,.bin .leq (.t 59) (.c (.t (.int .i64 200)))⟩,⟨some 4,none,.mv (.t 60)⟩]) .ret)))
theorem k_spec_l38Fits:comp Tryd.prog 61 (Tryd.f86.body.getD .skip)=some c_spec_l38Fits:=by kernel_rfl
theorem spec_l38Fits (t:Int) (s:List UInt8) (ht:1≤t∧t≤6) (hs:s.length≤1048576) (σ:Store):ACalls Tryd.prog 86 [.t (.int .i64 (t)),.t (.str (s))] σ fun rr σ'=>rr=.t (.bool (typeOk t s))∧σ'=σ:=by
 refine acalls_of Tryd.func86 (by decide +kernel) (code:=Tryd.f86.body.getD .skip) (n:=61) (c:=c_spec_l38Fits) (rs:=[(.tmp 4)]) rfl rfl k_spec_l38Fits (by kernel_rfl) (by simp) (fun hσ=>?_)
 have hh:True:=trivial
 have fin:∀ {u:V} {τ:Store},u=.t (.bool (typeOk t s))→u.lt σ.length=true→retV σ.length (fun rr σ'=>rr=.t (.bool (typeOk t s))∧σ'=σ) (σ++τ) (some [u]):=fun h h2=>ret_same rfl hσ h2 ⟨h,rfl⟩
 have fin0:∀ {u:V},u=.t (.bool (typeOk t s))→retV σ.length (fun rr σ'=>rr=.t (.bool (typeOk t s))∧σ'=σ) σ (some [u]):=fun h=>ret_same0 rfl ⟨h,rfl⟩
 obtain rfl | rfl | rfl | rfl | rfl | rfl:t=1∨t=2∨t=3∨t=4∨t=5∨t=6:=by omega
 ·simp -implicitDefEqProofs only [c_spec_l38Fits,Int.reduceBEq,cond_t,cond_f,zZ,zA,zB,zC,zD,zE,zG,zH,zI,zJ,zK,if_true,if_false,reduceCtorEq,zW,zX,zY,za,zb]
  repeat' (first
    | ((with_reducible refine cond_known (fun h=>?_) (fun h=>?_)) <;> (replace hh:=And.intro h hh; clear h; simp -implicitDefEqProofs only [hh,cond_t,cond_f,Int.reduceBEq,cond_t,cond_f,zZ,zA,zB,zC,zD,zE,zG,zH,zI,zJ,zK,if_true,if_false,reduceCtorEq,zW,zX,zY,za,zb]))
    | ((with_reducible refine call_pure (spec_l38NumberOk s hs _) ?_); simp -implicitDefEqProofs only [hh,cond_t,cond_f,Int.reduceBEq,cond_t,cond_f,zZ,zA,zB,zC,zD,zE,zG,zH,zI,zJ,zK,if_true,if_false,reduceCtorEq,zW,zX,zY,za,zb])
    | (first | ((with_reducible refine fin0 ?_); refine tb ?_; (try simp only [Known] at hh); rfl) | ((with_reducible refine fin ?_ ?_); rotate_left; exact rfl; refine tb ?_; (try simp only [Known] at hh); rfl)))
 ·simp -implicitDefEqProofs only [c_spec_l38Fits,Int.reduceBEq,cond_t,cond_f,zZ,zA,zB,zC,zD,zE,zG,zH,zI,zJ,zK,if_true,if_false,reduceCtorEq,zW,zX,zY,za,zb]
  refine call_pure (spec_l38NumberOk s hs _) ?_
  cases hn:numOk s with
  | true =>
   simp -implicitDefEqProofs only [Int.reduceBEq,cond_t,cond_f,hn,zZ,zA,zB,zC,zD,zE,zG,zH,zI,zJ,zK,if_true,if_false,reduceCtorEq,zW,zX,zY,za,zb]
   exact fin0 (tb (by rw [ty2,hn]; rfl))
  | false =>
   simp -implicitDefEqProofs only [Int.reduceBEq,cond_t,cond_f,hn,zZ,zA,zB,zC,zD,zE,zG,zH,zI,zJ,zK,if_true,if_false,reduceCtorEq,zW,zX,zY,za,zb]
   match s,hs,hn with
   | [],_,hn =>
    have g0:decide (((0:Nat):Int) > 1)=false:=rfl
    simp -implicitDefEqProofs only [Int.reduceBEq,cond_t,cond_f,zk,g0,zZ,zA,zB,zC,zD,zE,zG,zH,zI,zJ,zK,if_true,if_false,reduceCtorEq,zW,zX,zY,za,zb]
    exact fin0 (tb rfl)
   | c::r,hs,hn =>
    have e1:(c::r)[Int.toNat 0]?=some c:=rfl
    have e2:1≤(c::r).length:=by simp
    have e3:((1:Int)).toNat=1:=rfl
    have e4:(0:Int)≤1:=by omega
    have e5:(c::r).take (c::r).length=c::r:=List.take_length
    have e6:r.take r.length=r:=List.take_length
    have hr:r.length≤1048576:=by simp at hs; omega
    have ty:=ty2 (c::r)
    rw [hn,Bool.false_or,List.getElem?_cons_zero,Option.getD_some,show (c::r).drop 1=r from rfl] at ty
    have g1:decide (((r.length+1:Nat):Int) > 1)=decide (1<r.length+1):=decide_eq_decide.2 (by omega)
    have g2:(((c.toNat:Nat):Int) == 45)=(c == 45):=by
     rw [Bool.eq_iff_iff,beq_iff_eq,beq_iff_eq]
     exact ⟨fun h=>UInt8.toNat.inj (by show c.toNat=45; omega),fun h=>by subst h; rfl⟩
    rw [List.length_cons] at ty
    simp -implicitDefEqProofs only [Int.reduceBEq,cond_t,cond_f,e1,g1,g2,Int.le_refl,zZ,zA,zB,zC,zD,zE,zG,zH,zI,zJ,zK,if_true,if_false,reduceCtorEq,zW,zX,zY,za,zb]
    repeat' (first
    | ((with_reducible refine cond_known (fun h=>?_) (fun h=>?_)) <;> (replace hh:=And.intro h hh; clear h; simp -implicitDefEqProofs only [hh,cond_t,cond_f,g1,g2,e1,e2,e3,e4,e5,e6,Int.le_refl,zz,List.drop_zero,Int.reduceBEq,cond_t,cond_f,zZ,zA,zB,zC,zD,zE,zG,zH,zI,zJ,zK,if_true,if_false,reduceCtorEq,zW,zX,zY,za,zb]))
    | ((with_reducible refine call_pure (spec_l38NumberOk r hr _) ?_); simp -implicitDefEqProofs only [hh,cond_t,cond_f,g1,g2,e1,e2,e3,e4,e5,e6,Int.le_refl,zz,List.drop_zero,Int.reduceBEq,cond_t,cond_f,zZ,zA,zB,zC,zD,zE,zG,zH,zI,zJ,zK,if_true,if_false,reduceCtorEq,zW,zX,zY,za,zb])
    | (first | ((with_reducible refine fin0 ?_); refine tb ?_; (try simp only [Known] at hh); rw [ty]; grind) | ((with_reducible refine fin ?_ ?_); rotate_left; exact rfl; refine tb ?_; (try simp only [Known] at hh); rw [ty]; grind)))
 ·simp -implicitDefEqProofs only [c_spec_l38Fits,Int.reduceBEq,cond_t,cond_f,zZ,zA,zB,zC,zD,zE,zG,zH,zI,zJ,zK,if_true,if_false,reduceCtorEq,zW,zX,zY,za,zb]
  repeat' (first
    | ((with_reducible refine cond_known (fun h=>?_) (fun h=>?_)) <;> (replace hh:=And.intro h hh; clear h; simp -implicitDefEqProofs only [hh,cond_t,cond_f,Int.reduceBEq,cond_t,cond_f,zZ,zA,zB,zC,zD,zE,zG,zH,zI,zJ,zK,if_true,if_false,reduceCtorEq,zW,zX,zY,za,zb]))
    | ((with_reducible refine call_pure (spec_l38NameOk s hs _) ?_); simp -implicitDefEqProofs only [hh,cond_t,cond_f,Int.reduceBEq,cond_t,cond_f,zZ,zA,zB,zC,zD,zE,zG,zH,zI,zJ,zK,if_true,if_false,reduceCtorEq,zW,zX,zY,za,zb])
    | (first | ((with_reducible refine fin0 ?_); refine tb ?_; (try simp only [Known] at hh); rfl) | ((with_reducible refine fin ?_ ?_); rotate_left; exact rfl; refine tb ?_; (try simp only [Known] at hh); rfl)))
 ·simp -implicitDefEqProofs only [c_spec_l38Fits,Int.reduceBEq,cond_t,cond_f,zZ,zA,zB,zC,zD,zE,zG,zH,zI,zJ,zK,if_true,if_false,reduceCtorEq,zW,zX,zY,za,zb]
  repeat' (first
    | ((with_reducible refine cond_known (fun h=>?_) (fun h=>?_)) <;> (replace hh:=And.intro h hh; clear h; simp -implicitDefEqProofs only [hh,cond_t,cond_f,Int.reduceBEq,cond_t,cond_f,zZ,zA,zB,zC,zD,zE,zG,zH,zI,zJ,zK,if_true,if_false,reduceCtorEq,zW,zX,zY,za,zb]))
    | (first | ((with_reducible refine fin0 ?_); refine tb ?_; (try simp only [Known] at hh); rw [ty4]; exact decide_eq_decide.2 (by omega)) | ((with_reducible refine fin ?_ ?_); rotate_left; exact rfl; refine tb ?_; (try simp only [Known] at hh); rw [ty4]; exact decide_eq_decide.2 (by omega))))
 ·simp -implicitDefEqProofs only [c_spec_l38Fits,Int.reduceBEq,cond_t,cond_f,zZ,zA,zB,zC,zD,zE,zG,zH,zI,zJ,zK,if_true,if_false,reduceCtorEq,zW,zX,zY,za,zb]
  repeat' (first
    | ((with_reducible refine cond_known (fun h=>?_) (fun h=>?_)) <;> (replace hh:=And.intro h hh; clear h; simp -implicitDefEqProofs only [hh,cond_t,cond_f,Int.reduceBEq,cond_t,cond_f,zZ,zA,zB,zC,zD,zE,zG,zH,zI,zJ,zK,if_true,if_false,reduceCtorEq,zW,zX,zY,za,zb]))
    | (first | ((with_reducible refine fin0 ?_); refine tb ?_; (try simp only [Known] at hh); rw [ty5]; grind) | ((with_reducible refine fin ?_ ?_); rotate_left; exact rfl; refine tb ?_; (try simp only [Known] at hh); rw [ty5]; grind)))
 ·simp -implicitDefEqProofs only [c_spec_l38Fits,Int.reduceBEq,cond_t,cond_f,zZ,zA,zB,zC,zD,zE,zG,zH,zI,zJ,zK,if_true,if_false,reduceCtorEq,zW,zX,zY,za,zb]
  repeat' (first
    | ((with_reducible refine cond_known (fun h=>?_) (fun h=>?_)) <;> (replace hh:=And.intro h hh; clear h; simp -implicitDefEqProofs only [hh,cond_t,cond_f,Int.reduceBEq,cond_t,cond_f,zZ,zA,zB,zC,zD,zE,zG,zH,zI,zJ,zK,if_true,if_false,reduceCtorEq,zW,zX,zY,za,zb]))
    | (first | ((with_reducible refine fin0 ?_); refine tb ?_; (try simp only [Known] at hh); rw [ty6]; grind) | ((with_reducible refine fin ?_ ?_); rotate_left; exact rfl; refine tb ?_; (try simp only [Known] at hh); rw [ty6]; grind)))
def findI {α:Type} (p:α→Bool):List α→Nat→Int
 | [],_=>-1
 | x::l,k=>if p x=true then k else findI p l (k+1)
theorem find_i {α:Type} (p:α→Bool):∀ (l:List α) (k:Nat),(findI p l k=-1∧l.find? p=none)∨∃ i x,l[i]?=some x∧findI p l k=((k+i:Nat):Int)∧l.find? p=some x
 | [],k=>.inl ⟨rfl,rfl⟩
 | x::l,k=>by
  by_cases h:p x=true
  ·exact .inr ⟨0,x,rfl,by simp [findI,h],by simp [h]⟩
  ·rcases find_i p l (k+1) with ⟨h1,h2⟩ | ⟨i,u,h1,h2,h3⟩
   ·exact .inl ⟨by simp [findI,h,h1],by simp [h,h2]⟩
   ·exact .inr ⟨i+1,u,by simpa using h1,by simp only [findI,h,h2]; simp; omega,by simp [h,h3]⟩
def keyIs (key:List UInt8) (r:SheetRule):Bool:=r.Key == key
def ruleIx (kind key:List UInt8):Int:=findI (keyIs key) (rulesR kind) 0
def ruleOf (kind key:List UInt8):Option SheetRule:=(rulesR kind).find? (keyIs key)
def ruleV:Option SheetRule→List V
 | some x=>x.vs
 | none=>[.t (.str []),.nils,.t (.bool false),.nils]
theorem rule_two (kind key:List UInt8):(ruleIx kind key=-1∧ruleOf kind key=none)∨∃ (i:Nat) (x:SheetRule),(rulesR kind)[i]?=some x∧ruleIx kind key=(i:Nat)∧ruleOf kind key=some x:=by
 rcases find_i (keyIs key) (rulesR kind) 0 with h | ⟨i,x,h1,h2,h3⟩
 ·exact .inl h
 ·exact .inr ⟨i,x,h1,by rw [ruleIx,h2,Nat.zero_add],h3⟩
def c_spec_l38Rule:C:=(.seq (.ops [⟨some 4,none,.mv (.c (.t (.int .i64 0)))⟩]) (.seq (.ops [⟨some 7,none,.mv (.t 0)⟩,⟨some 8,none,.call (.c (.fn (.func 33) [])) [.t 7]⟩,⟨some 5,none,.mv (.t 8)⟩]) (.seq (.seq (.ops [⟨some 6,none,.mv (.c (.t (.int .i64 0)))⟩]) (.block 0 (.loop (.seq (.seq (.ops [⟨some 9,none,.mv (.t 6)⟩,⟨some 10,none,.mv (.t 5)⟩,⟨some 11,none,.len false (.t 10)⟩,⟨some 12,none,.bin .lss (.t 9) (.t 11)⟩]) (.cond (.t 12) .skip (.exit 0))) (.seq (.block 1 (.seq (.ops [⟨some 15,none,.mv (.t 5)⟩,⟨some 16,none,.mv (.t 6)⟩,⟨some 17,none,.indexAddr 4 (.t 15) (.t 16)⟩,⟨some 18,none,.fieldAddr 0 (.t 17)⟩,⟨some 19,none,.load none (.t 18)⟩,⟨some 20,none,.mv (.t 1)⟩,⟨some 21,none,.bin .eql (.t 19) (.t 20)⟩]) (.cond (.t 21) (.seq (.ops [⟨some 22,none,.mv (.t 6)⟩,⟨some 4,none,.mv (.t 22)⟩]) .ret) .skip))) (.ops [⟨some 13,none,.mv (.t 6)⟩,⟨some 14,none,.bin .add (.t 13) (.c (.t (.int .i64 1)))⟩,⟨some 6,none,.mv (.t 14)⟩])))))) (.seq (.ops [⟨some 4,none,.mv (.c (.t (.int .i64 (-1))))⟩]) .ret))))
theorem k_spec_l38Rule:comp Tryd.prog 23 (Tryd.f36.body.getD .skip)=some c_spec_l38Rule:=by kernel_rfl
theorem spec_l38Rule (kind key:List UInt8)  (σ:Store):ACalls Tryd.prog 36 [.t (.str (kind)),.t (.str (key))] σ fun rr σ'=>rr=.t (.int .i64 (ruleIx kind key))∧σ'=σ:=by
 refine acalls_of Tryd.func36 (by decide +kernel) (code:=Tryd.f36.body.getD .skip) (n:=23) (c:=c_spec_l38Rule) (rs:=[(.tmp 4)]) rfl rfl k_spec_l38Rule (by kernel_rfl) (by simp) (fun hσ=>?_)
 have hh:True:=trivial
 have fin:∀ {u:V} {τ:Store},u=.t (.int .i64 (ruleIx kind key))→u.lt σ.length=true→retV σ.length (fun rr σ'=>rr=.t (.int .i64 (ruleIx kind key))∧σ'=σ) (σ++τ) (some [u]):=fun h h2=>ret_same rfl hσ h2 ⟨h,rfl⟩
 have fin0:∀ {u:V},u=.t (.int .i64 (ruleIx kind key))→retV σ.length (fun rr σ'=>rr=.t (.int .i64 (ruleIx kind key))∧σ'=σ) σ (some [u]):=fun h=>ret_same0 rfl ⟨h,rfl⟩
 have y1:=(rules_small kind).1
 simp -implicitDefEqProofs only [c_spec_l38Rule,zh,zZ,zA,zB,zC,zD,zE,zG,zH,zI,zJ,zK,if_true,if_false,reduceCtorEq,zW,zX,zY,za,zb]
 refine call_pure (spec_SheetRules kind _) ?_
 simp -implicitDefEqProofs only [zh,zZ,zA,zB,zC,zD,zE,zG,zH,zI,zJ,zK,if_true,if_false,reduceCtorEq,zW,zX,zY,za,zb]
 refine loop_p [6,1,5] [1,5] (fun k:Nat=>[(6,.t (.int .i64 (k:Nat)))]) (fun k=>k≤(rulesR kind).length∧findI (keyIs key) ((rulesR kind).drop k) k=ruleIx kind key) (fun k=>(rulesR kind).length - k) 0 (by simp) ⟨Nat.zero_le _,rfl⟩ rfl ?_
 rintro k ⟨hk,hall⟩
 simp -implicitDefEqProofs only [keep,zh,zZ,zA,zB,zC,zD,zE,zG,zH,zI,zJ,zK,if_true,if_false,reduceCtorEq,zW,zX,zY,za,zb]
 refine cond_split (fun h1=>?_) (fun h1=>?_)
 ·obtain ⟨x,hx,hlt⟩:=at_of h1
  have hd:=drop_of hx
  have more:=i64_succ (show k<4611686018427387904 by omega)
  rw [hd] at hall
  simp -implicitDefEqProofs only [hx,zV,zd,zm,yA,zh,SheetRule.ts,more,zZ,zA,zB,zC,zD,zE,zG,zH,zI,zJ,zK,if_true,if_false,reduceCtorEq,zW,zX,zY,za,zb]
  refine cond_split (fun g1=>?_) (fun g1=>?_)
  ·have hb:keyIs key x=true:=g1
   simp -implicitDefEqProofs only [hx,zV,zd,zm,yA,zh,SheetRule.ts,more,zZ,zA,zB,zC,zD,zE,zG,zH,zI,zJ,zK,if_true,if_false,reduceCtorEq,zW,zX,zY,za,zb]
   rw [findI,if_pos hb] at hall
   first | exact fin0 (by rw [← hall]; try rfl) | exact fin (by rw [← hall]; try rfl) (by rfl)
  ·have hb:keyIs key x=false:=g1
   rw [findI,if_neg (by rw [hb]; simp)] at hall
   simp -implicitDefEqProofs only [more,zZ,zA,zB,zC,zD,zE,zG,zH,zI,zJ,zK,if_true,if_false,reduceCtorEq,zW,zX,zY,za,zb]
   first | exact lk_p0 (k+1) (by simp) (by simp) (by omega) ⟨by omega,hall⟩ rfl | exact lk_p (k+1) (by simp) (by simp) hσ rfl (by omega) ⟨by omega,hall⟩ rfl rfl | exact lk_pm (k+1) (Nat.le_refl _) (by simp) hσ rfl rfl (by omega) ⟨by omega,hall⟩ (by simp [ltE,keep,eget,V.lt]) rfl
 ·have hkk:=end_of h1 hk
  rw [hkk,List.drop_length] at hall
  simp -implicitDefEqProofs only [zZ,zA,zB,zC,zD,zE,zG,zH,zI,zJ,zK,if_true,if_false,reduceCtorEq,zW,zX,zY,za,zb]
  first | exact fin0 (by rw [← hall]; try rfl) | exact fin (by rw [← hall]; try rfl) rfl
theorem lt_stb {σ:Store} {cs:List V} (hσ:ltσ σ.length σ=true) (hc:V.lts (σ.length+1) cs=true):ltσ (σ.length+1) (σ++[.box cs])=true:=by
 simp only [ltσ,List.all_append,yB,List.all_cons,List.all_nil,Bool.and_true]
 refine ⟨?_,hc⟩
 exact ltσ_mono (Nat.le_succ _) hσ
theorem rlt (n:Nat) (x:Option SheetRule) (i:Int):(V.tup [.agg (ruleV x),.t (.int .i64 i)]).lt n=true:=by
 cases x <;> simp [ruleV,V.lt,V.lts]
def c_impl_find:C:=(.seq (.ops [⟨some 4,none,.new [.t (.str []),.nils,.t (.bool false),.nils]⟩,⟨some 5,none,.mv (.c (.t (.int .i64 0)))⟩]) (.seq (.seq (.ops [⟨some 8,none,.mv (.t 0)⟩,⟨some 9,none,.call (.c (.fn (.func 13) [])) [.t 8]⟩,⟨some 10,none,.len false (.t 9)⟩,⟨some 11,none,.mv (.c (.t (.int .i64 0)))⟩]) (.block 0 (.loop (.seq (.ops [⟨some 12,none,.bin .lss (.t 11) (.t 10)⟩]) (.seq (.cond (.t 12) .skip (.exit 0)) (.seq (.block 1 (.seq (.ops [⟨some 13,none,.mv (.t 11)⟩,⟨some 14,none,.indexAddr 4 (.t 9) (.t 11)⟩,⟨some 15,none,.load (some 4) (.t 14)⟩,⟨some 7,none,.new [.t (.str []),.nils,.t (.bool false),.nils]⟩,⟨some 6,none,.mv (.t 13)⟩,⟨none,none,.store 4 (.t 7) (.t 15)⟩]) (.seq (.ops [⟨some 16,none,.fieldAddr 0 (.t 7)⟩,⟨some 17,none,.load none (.t 16)⟩,⟨some 18,none,.mv (.t 1)⟩,⟨some 19,none,.bin .eql (.t 17) (.t 18)⟩]) (.cond (.t 19) (.seq (.ops [⟨some 20,none,.load (some 4) (.t 7)⟩,⟨some 21,none,.mv (.t 6)⟩,⟨none,none,.store 4 (.t 4) (.t 20)⟩,⟨some 5,none,.mv (.t 21)⟩]) .ret) .skip)))) (.ops [⟨some 22,none,.bin .add (.t 11) (.c (.t (.int .i64 1)))⟩,⟨some 11,none,.mv (.t 22)⟩]))))))) (.seq (.ops [⟨some 23,none,.build [.t (.str []),.nils,.t (.bool false),.nils] []⟩,⟨none,none,.store 4 (.t 4) (.t 23)⟩,⟨some 5,none,.mv (.c (.t (.int .i64 (-1))))⟩]) .ret)))
theorem k_impl_find:comp Tryd.prog 24 (Tryd.f30.body.getD .skip)=some c_impl_find:=by kernel_rfl
theorem impl_find (kind key:List UInt8)  (σ:Store):ACalls Tryd.prog 30 [.t (.str (kind)),.t (.str (key))] σ fun rr σ'=>rr=.tup [.agg (ruleV (ruleOf kind key)),.t (.int .i64 (ruleIx kind key))]∧σ'=σ:=by
 refine acalls_of Tryd.func30 (by decide +kernel) (code:=Tryd.f30.body.getD .skip) (n:=24) (c:=c_impl_find) (rs:=[(.cell 4 (some 4)),(.tmp 5)]) rfl rfl k_impl_find (by kernel_rfl) (by simp) (fun hσ=>?_)
 have hh:True:=trivial
 have fin:∀ {u:V} {τ:Store},u=.tup [.agg (ruleV (ruleOf kind key)),.t (.int .i64 (ruleIx kind key))]→u.lt σ.length=true→retV σ.length (fun rr σ'=>rr=.tup [.agg (ruleV (ruleOf kind key)),.t (.int .i64 (ruleIx kind key))]∧σ'=σ) (σ++τ) (some [u]):=fun h h2=>ret_same rfl hσ h2 ⟨h,rfl⟩
 have fin0:∀ {u:V},u=.tup [.agg (ruleV (ruleOf kind key)),.t (.int .i64 (ruleIx kind key))]→retV σ.length (fun rr σ'=>rr=.tup [.agg (ruleV (ruleOf kind key)),.t (.int .i64 (ruleIx kind key))]∧σ'=σ) σ (some [u]):=fun h=>ret_same0 rfl ⟨h,rfl⟩
 have y1:=(rules_small kind).1
 have fins:∀ {us:List V} {i:Int} {τ:Store},us=ruleV (ruleOf kind key)→i=ruleIx kind key→retV σ.length (fun rr σ'=>rr=V.tup [.agg (ruleV (ruleOf kind key)),.t (.int .i64 (ruleIx kind key))]∧σ'=σ) (σ++τ) (some [.agg us,.t (.int .i64 i)]):=fun h h2=>by
  subst h; subst h2
  exact ret_same rfl hσ (rlt _ _ _) ⟨rfl,rfl⟩
 simp -implicitDefEqProofs only [c_impl_find,zZ,zA,zB,zC,zD,zE,zG,zH,zI,zJ,zK,if_true,if_false,reduceCtorEq,zW,zX,zY,za,zb]
 refine call_pure (impl_SheetRulesF kind _) ?_
 by_cases hk:kindOk kind=true
 ·simp -implicitDefEqProofs only [hk,if_true,zh,zZ,zA,zB,zC,zD,zE,zG,zH,zI,zJ,zK,if_true,if_false,reduceCtorEq,zW,zX,zY,za,zb]
  refine loop_s [11,1,4,9,10] [1,4,9,10] (fun k:Nat=>[(11,.t (.int .i64 (k:Nat)))]) (fun _=>σ++[.box [.t (.str []),.nils,.t (.bool false),.nils]]) (fun k=>k≤(rulesR kind).length∧findI (keyIs key) ((rulesR kind).drop k) k=ruleIx kind key∧((rulesR kind).drop k).find? (keyIs key)=ruleOf kind key) (fun k=>(rulesR kind).length - k) 0 (σ.length+1) (by simp) (by omega) ⟨Nat.zero_le _,rfl,rfl⟩ rfl rfl ?_
  rintro k ⟨hkl,hall,hall2⟩
  simp -implicitDefEqProofs only [keep,zh,zZ,zA,zB,zC,zD,zE,zG,zH,zI,zJ,zK,if_true,if_false,reduceCtorEq,zW,zX,zY,za,zb]
  refine cond_split (fun h1=>?_) (fun h1=>?_)
  ·obtain ⟨x,hx,hlt⟩:=at_of h1
   have hd:=drop_of hx
   have more:=i64_succ (show k<4611686018427387904 by omega)
   rw [hd] at hall hall2
   simp -implicitDefEqProofs only [hx,zV,zd,zm,yA,zh,SheetRule.ts,more,zZ,zA,zB,zC,zD,zE,zG,zH,zI,zJ,zK,if_true,if_false,reduceCtorEq,zW,zX,zY,za,zb]
   refine cond_split (fun g1=>?_) (fun g1=>?_)
   ·have hb:keyIs key x=true:=g1
    rw [findI,if_pos hb] at hall
    rw [List.find?_cons_of_pos hb] at hall2
    simp -implicitDefEqProofs only [more,zZ,zA,zB,zC,zD,zE,zG,zH,zI,zJ,zK,if_true,if_false,reduceCtorEq,zW,zX,zY,za,zb]
    exact fins (by rw [← hall2]; rfl) hall
   ·have hb:keyIs key x=false:=g1
    rw [findI,if_neg (by rw [hb]; simp)] at hall
    rw [List.find?_cons_of_neg (by rw [hb]; simp)] at hall2
    simp -implicitDefEqProofs only [more,zZ,zA,zB,zC,zD,zE,zG,zH,zI,zJ,zK,if_true,if_false,reduceCtorEq,zW,zX,zY,za,zb]
    refine lk_s (k+1) (by simp) (by omega) (τ:=[.box [.t (.str x.Key),.t (.lst 1 (x.Args.map tInt)),.t (.bool x.Many),.t (.lst 1 (x.Default.map tStr))]]) (by simp) (by omega) ⟨by omega,hall,hall2⟩ (lt_stb hσ rfl) (by simp [keep,eget,ltE,V.lt]) rfl
  ·have hkk:=end_of h1 hkl
   rw [hkk,List.drop_length] at hall hall2
   simp -implicitDefEqProofs only [zZ,zA,zB,zC,zD,zE,zG,zH,zI,zJ,zK,if_true,if_false,reduceCtorEq,zW,zX,zY,za,zb]
   exact fins (by rw [← hall2]; rfl) hall
 ·have hk':kindOk kind=false:=by simpa using hk
  have hr:=rulesR_none hk'
  have e1:ruleOf kind key=none:=by rw [ruleOf,hr]; rfl
  have e2:ruleIx kind key=-1:=by rw [ruleIx,hr]; rfl
  simp -implicitDefEqProofs only [hk,zZ,zA,zB,zC,zD,zE,zG,zH,zI,zJ,zK,if_true,if_false,reduceCtorEq,zW,zX,zY,za,zb]
  refine loop_s [11,1,4,9,10] [1,4,9,10] (fun k:Nat=>[(11,.t (.int .i64 (k:Nat)))]) (fun _=>σ++[.box [.t (.str []),.nils,.t (.bool false),.nils]]) (fun k=>k=0) (fun k=>0) 0 (σ.length+1) (by simp) (by omega) rfl rfl rfl ?_
  rintro k rfl
  simp -implicitDefEqProofs only [keep,zZ,zA,zB,zC,zD,zE,zG,zH,zI,zJ,zK,if_true,if_false,reduceCtorEq,zW,zX,zY,za,zb]
  refine cond_split (fun h1=>?_) (fun h1=>?_)
  ·simp at h1
  simp -implicitDefEqProofs only [zZ,zA,zB,zC,zD,zE,zG,zH,zI,zJ,zK,if_true,if_false,reduceCtorEq,zW,zX,zY,za,zb]
  exact fins (by rw [e1]; rfl) e2.symm
def fitP (words:List (List UInt8)) (q:Int × Nat):Bool:=typeOk q.1 (words[q.2]?.getD [])
def fitsR (kind key:List UInt8) (words:List (List UInt8)):Bool:=match ruleOf kind key with
 | none=>false
 | some x=>x.Args.length == words.length && x.Args.zipIdx.all (fitP words)
theorem rule_in {kind key:List UInt8} {x:SheetRule} (h:ruleOf kind key=some x):x∈rulesR kind∧x.Key=key:=by
 refine ⟨List.mem_of_find?_eq_some h,?_⟩
 have:=List.find?_some h
 simpa [keyIs] using this
theorem rule_args {kind key:List UInt8} {x:SheetRule} (h:ruleOf kind key=some x):x.Args.length≤5∧∀ n∈x.Args,1≤n∧n≤6:=by
 have h1:=List.all_eq_true.1 (rules_small kind).2 x (rule_in h).1
 simp only [ruleSmall,yB,decide_eq_true_eq,List.all_eq_true] at h1
 exact ⟨h1.1.1.1.2,h1.1.1.2⟩
def c_spec_SheetFits:C:=(.seq (.ops [⟨some 6,none,.mv (.c (.t (.bool false)))⟩]) (.seq (.ops [⟨some 10,none,.mv (.t 0)⟩,⟨some 11,none,.mv (.t 1)⟩,⟨some 12,none,.call (.c (.fn (.func 36) [])) [.t 10,.t 11]⟩,⟨some 7,none,.mv (.t 12)⟩]) (.seq (.seq (.ops [⟨some 13,none,.mv (.t 7)⟩,⟨some 14,none,.bin .lss (.t 13) (.c (.t (.int .i64 0)))⟩]) (.cond (.t 14) (.seq (.ops [⟨some 6,none,.mv (.c (.t (.bool false)))⟩]) .ret) .skip)) (.seq (.ops [⟨some 15,none,.mv (.t 0)⟩,⟨some 16,none,.call (.c (.fn (.func 33) [])) [.t 15]⟩,⟨some 17,none,.mv (.t 7)⟩,⟨some 18,none,.indexAddr 4 (.t 16) (.t 17)⟩,⟨some 19,none,.fieldAddr 1 (.t 18)⟩,⟨some 20,none,.load none (.t 19)⟩,⟨some 8,none,.mv (.t 20)⟩]) (.seq (.seq (.ops [⟨some 21,none,.mv (.t 8)⟩,⟨some 22,none,.len false (.t 21)⟩,⟨some 23,none,.mv (.t 2)⟩,⟨some 24,none,.len false (.t 23)⟩,⟨some 25,none,.bin .neq (.t 22) (.t 24)⟩]) (.cond (.t 25) (.seq (.ops [⟨some 6,none,.mv (.c (.t (.bool false)))⟩]) .ret) .skip)) (.seq (.seq (.ops [⟨some 9,none,.mv (.c (.t (.int .i64 0)))⟩]) (.block 0 (.loop (.seq (.seq (.ops [⟨some 26,none,.mv (.t 9)⟩,⟨some 27,none,.mv (.t 8)⟩,⟨some 28,none,.len false (.t 27)⟩,⟨some 29,none,.bin .lss (.t 26) (.t 28)⟩]) (.cond (.t 29) .skip (.exit 0))) (.seq (.block 1 (.seq (.drawn [.mk 0 false ⟨some 32,none,.mv (.t 8)⟩ [],.mk 1 false ⟨some 33,none,.mv (.t 9)⟩ [],.mk 2 false ⟨some 34,none,.indexAddr 1 (.t 32) (.t 33)⟩ [],.mk 3 false ⟨some 35,none,.load none (.t 34)⟩ [],.mk 4 false ⟨some 36,none,.mv (.t 2)⟩ [],.mk 5 false ⟨some 37,none,.mv (.t 9)⟩ [],.mk 6 false ⟨some 38,none,.indexAddr 1 (.t 36) (.t 37)⟩ [],.mk 7 false ⟨some 39,none,.load none (.t 38)⟩ [],.mk 8 false ⟨some 40,none,.call (.c (.fn (.func 86) [])) [.t 35,.t 39]⟩ [],.mk 9 false ⟨some 41,none,.un .not (.t 40)⟩ []]) (.cond (.t 41) (.seq (.ops [⟨some 6,none,.mv (.c (.t (.bool false)))⟩]) .ret) .skip))) (.ops [⟨some 30,none,.mv (.t 9)⟩,⟨some 31,none,.bin .add (.t 30) (.c (.t (.int .i64 1)))⟩,⟨some 9,none,.mv (.t 31)⟩])))))) (.seq (.ops [⟨some 6,none,.mv (.c (.t (.bool true)))⟩]) .ret)))))))
theorem k_spec_SheetFits:comp Tryd.prog 42 (Tryd.f67.body.getD .skip)=some c_spec_SheetFits:=by kernel_rfl
theorem spec_SheetFits0 (kind key:List UInt8) (words:List (List UInt8)) (hws:StrsOk words)  (σ:Store):ACalls Tryd.prog 67 [.t (.str (kind)),.t (.str (key)),.t (tStrs words)] σ fun rr σ'=>rr=.t (.bool (fitsR kind key words))∧σ'=σ:=by
 refine acalls_of Tryd.func67 (by decide +kernel) (code:=Tryd.f67.body.getD .skip) (n:=42) (c:=c_spec_SheetFits) (rs:=[(.tmp 6)]) rfl rfl k_spec_SheetFits (by kernel_rfl) (by simp) (fun hσ=>?_)
 have hh:True:=trivial
 have fin:∀ {u:V} {τ:Store},u=.t (.bool (fitsR kind key words))→u.lt σ.length=true→retV σ.length (fun rr σ'=>rr=.t (.bool (fitsR kind key words))∧σ'=σ) (σ++τ) (some [u]):=fun h h2=>ret_same rfl hσ h2 ⟨h,rfl⟩
 have fin0:∀ {u:V},u=.t (.bool (fitsR kind key words))→retV σ.length (fun rr σ'=>rr=.t (.bool (fitsR kind key words))∧σ'=σ) σ (some [u]):=fun h=>ret_same0 rfl ⟨h,rfl⟩
 have y1:=(rules_small kind).1
 simp -implicitDefEqProofs only [c_spec_SheetFits,zZ,zA,zB,zC,zD,zE,zG,zH,zI,zJ,zK,if_true,if_false,reduceCtorEq,zW,zX,zY,za,zb]
 refine call_pure (spec_l38Rule kind key _) ?_
 rcases rule_two kind key with ⟨hi,hr⟩ | ⟨i,y,hy,hi,hr⟩
 ·have hres:fitsR kind key words=false:=by rw [fitsR,hr]
  rw [hi]
  have d1:decide ((-1:Int)<0)=true:=rfl
  simp -implicitDefEqProofs only [d1,cond_t,cond_f,zZ,zA,zB,zC,zD,zE,zG,zH,zI,zJ,zK,if_true,if_false,reduceCtorEq,zW,zX,zY,za,zb]
  exact fin0 (tb hres.symm)
 have hrx:=hr
 have hres:fitsR kind key words=(y.Args.length == words.length && y.Args.zipIdx.all (fitP words)):=by rw [fitsR,hr]
 rw [hi]
 have d1:decide (((i:Nat):Int)<0)=false:=by simp
 have hil:((i:Nat):Int)<(((rulesR kind).length:Nat):Int):=by have:=(List.getElem?_eq_some_iff.1 hy).1; omega
 have g0:=rule_args hr
 simp -implicitDefEqProofs only [d1,cond_t,cond_f,zZ,zA,zB,zC,zD,zE,zG,zH,zI,zJ,zK,if_true,if_false,reduceCtorEq,zW,zX,zY,za,zb]
 refine call_pure (spec_SheetRules kind _) ?_
 simp -implicitDefEqProofs only [hy,hil,zh,zm,yA,zV,SheetRule.ts,zZ,zA,zB,zC,zD,zE,zG,zH,zI,zJ,zK,if_true,if_false,reduceCtorEq,zW,zX,zY,za,zb]
 refine cond_split (fun h=>?_) (fun h=>?_)
 ·have hne:(y.Args.length == words.length)=false:=by
   have:¬ ((y.Args.length:Nat):Int)=((words.length:Nat):Int):=by simpa using h
   simp; omega
  simp -implicitDefEqProofs only [zZ,zA,zB,zC,zD,zE,zG,zH,zI,zJ,zK,if_true,if_false,reduceCtorEq,zW,zX,zY,za,zb]
  exact fin0 (tb (by rw [hres,hne]; rfl))
 have hlen:y.Args.length=words.length:=by
  have:((y.Args.length:Nat):Int)=((words.length:Nat):Int):=by simpa using h
  omega
 have hle:(y.Args.length == words.length)=true:=by simp [hlen]
 rw [hle,Bool.true_and] at hres
 simp -implicitDefEqProofs only [zZ,zA,zB,zC,zD,zE,zG,zH,zI,zJ,zK,if_true,if_false,reduceCtorEq,zW,zX,zY,za,zb]
 refine loop_p [9,2,8] [2,8] (fun k:Nat=>[(9,.t (.int .i64 (k:Nat)))]) (fun k=>k≤(y.Args).length∧((y.Args).zipIdx.take k).all (fitP words)=true) (fun k=>(y.Args).length - k) 0 (by simp) ⟨Nat.zero_le _,rfl⟩ rfl ?_
 rintro k ⟨hk,hall⟩
 simp -implicitDefEqProofs only [keep,zh,zZ,zA,zB,zC,zD,zE,zG,zH,zI,zJ,zK,if_true,if_false,reduceCtorEq,zW,zX,zY,za,zb]
 refine cond_split (fun h1=>?_) (fun h1=>?_)
 ·obtain ⟨x,hx,hlt⟩:=at_of h1
  clear h1 hh
  have hh:True:=trivial
  obtain ⟨w,hw⟩:∃ w,words[k]?=some w:=⟨words[k]'(by omega),List.getElem?_eq_getElem (by omega)⟩
  have hwl:w.length≤1048576:=hws.2 w (List.mem_of_getElem? hw)
  have ht:=(rule_args hrx).2 x (List.mem_of_getElem? hx)
  have hfp:fitP words (x,k)=typeOk x w:=by simp [fitP,hw]
  simp -implicitDefEqProofs only [hx,zV,zd,zm,yA,hw,tInt,tStr,zu,zx,i64_succ (show k<4611686018427387904 by omega),zZ,zA,zB,zC,zD,zE,zG,zH,zI,zJ,zK,if_true,if_false,reduceCtorEq,zW,zX,zY,za,zb]
  repeat' (first
  | ((with_reducible refine cond_known (fun h=>?_) (fun h=>?_)) <;> (replace hh:=And.intro h hh; clear h; simp -implicitDefEqProofs only [hh,cond_t,cond_f,hx,zV,zd,zm,yA,hw,tInt,tStr,zu,zx,i64_succ (show k<4611686018427387904 by omega),zZ,zA,zB,zC,zD,zE,zG,zH,zI,zJ,zK,if_true,if_false,reduceCtorEq,zW,zX,zY,za,zb]))
  | ((with_reducible refine call_pure (spec_l38Fits x w ht hwl _) ?_); simp -implicitDefEqProofs only [hh,cond_t,cond_f,hx,zV,zd,zm,yA,hw,tInt,tStr,zu,zx,i64_succ (show k<4611686018427387904 by omega),zZ,zA,zB,zC,zD,zE,zG,zH,zI,zJ,zK,if_true,if_false,reduceCtorEq,zW,zX,zY,za,zb])
  | (first | ((with_reducible refine fin0 ?_); refine tb ?_; (try simp only [Known] at hh); have hno:=all_not (l:=(y.Args).zipIdx) (p:=(fitP words)) (zip_at hx); rw [hres]; grind) | ((with_reducible refine fin ?_ ?_); rotate_left; exact rfl; refine tb ?_; (try simp only [Known] at hh); have hno:=all_not (l:=(y.Args).zipIdx) (p:=(fitP words)) (zip_at hx); rw [hres]; grind) | (refine lk_p0 (k+1) (by simp) (by simp) (by omega) ⟨by omega,all_step (zip_at hx) hall ?_⟩ rfl; (try simp only [Known] at hh); rw [hfp]; grind) | (refine lk_p (k+1) (by simp) (by simp) hσ rfl (by omega) ⟨by omega,all_step (zip_at hx) hall ?_⟩ rfl rfl; (try simp only [Known] at hh); rw [hfp]; grind) | (refine lk_pm (k+1) (Nat.le_refl _) (by simp) hσ rfl rfl (by omega) ⟨by omega,all_step (zip_at hx) hall ?_⟩ (by simp [ltE,keep,eget,V.lt]) rfl; (try simp only [Known] at hh); rw [hfp]; grind)))
 replace hall:=all_len hall ((end_of h1 hk).trans (by simp))
 clear h1 hk
 simp -implicitDefEqProofs only [zZ,zA,zB,zC,zD,zE,zG,zH,zI,zJ,zK,if_true,if_false,reduceCtorEq,zW,zX,zY,za,zb]
 (first | ((with_reducible refine fin0 ?_); refine tb ?_; (try simp only [Known] at hh); rw [hres]; grind) | ((with_reducible refine fin ?_ ?_); rotate_left; exact rfl; refine tb ?_; (try simp only [Known] at hh); rw [hres]; grind))
def c_impl_SheetFits:C:=(.seq (.ops [⟨some 6,none,.mv (.c (.t (.bool false)))⟩]) (.seq (.ops [⟨some 12,none,.mv (.t 0)⟩,⟨some 13,none,.mv (.t 1)⟩,⟨some 14,none,.call (.c (.fn (.func 30) [])) [.t 12,.t 13]⟩,⟨some 11,none,.mv (.t 14)⟩,⟨some 15,none,.extract (.t 11) 0⟩,⟨some 16,none,.extract (.t 11) 1⟩,⟨some 7,none,.new [.t (.str []),.nils,.t (.bool false),.nils]⟩,⟨none,none,.store 4 (.t 7) (.t 15)⟩,⟨some 8,none,.mv (.t 16)⟩]) (.seq (.seq (.ops [⟨some 17,none,.mv (.t 8)⟩,⟨some 18,none,.bin .lss (.t 17) (.c (.t (.int .i64 0)))⟩,⟨some 19,none,.mv (.t 18)⟩,⟨some 20,some ⟨19,false⟩,.mv (.t 2)⟩,⟨some 21,some ⟨19,false⟩,.len false (.t 20)⟩,⟨some 22,some ⟨19,false⟩,.fieldAddr 1 (.t 7)⟩,⟨some 23,some ⟨19,false⟩,.load none (.t 22)⟩,⟨some 24,some ⟨19,false⟩,.len false (.t 23)⟩,⟨some 25,some ⟨19,false⟩,.bin .neq (.t 21) (.t 24)⟩,⟨some 26,none,.pick (.t 19) (.c (.t (.bool true))) (.t 25)⟩]) (.cond (.t 26) (.seq (.ops [⟨some 6,none,.mv (.c (.t (.bool false)))⟩]) .ret) .skip)) (.seq (.seq (.ops [⟨some 27,none,.fieldAddr 1 (.t 7)⟩,⟨some 28,none,.load none (.t 27)⟩,⟨some 29,none,.len false (.t 28)⟩,⟨some 30,none,.mv (.c (.t (.int .i64 0)))⟩]) (.block 0 (.loop (.seq (.ops [⟨some 31,none,.bin .lss (.t 30) (.t 29)⟩]) (.seq (.cond (.t 31) .skip (.exit 0)) (.seq (.block 1 (.seq (.ops [⟨some 32,none,.mv (.t 30)⟩,⟨some 33,none,.indexAddr 1 (.t 28) (.t 30)⟩,⟨some 34,none,.load none (.t 33)⟩,⟨some 9,none,.mv (.t 32)⟩,⟨some 10,none,.mv (.t 34)⟩]) (.seq (.ops [⟨some 35,none,.mv (.t 10)⟩,⟨some 36,none,.mv (.t 2)⟩,⟨some 37,none,.mv (.t 9)⟩,⟨some 38,none,.indexAddr 1 (.t 36) (.t 37)⟩,⟨some 39,none,.load none (.t 38)⟩,⟨some 40,none,.call (.c (.fn (.func 87) [])) [.t 35,.t 39]⟩,⟨some 41,none,.un .not (.t 40)⟩]) (.cond (.t 41) (.seq (.ops [⟨some 6,none,.mv (.c (.t (.bool false)))⟩]) .ret) .skip)))) (.ops [⟨some 42,none,.bin .add (.t 30) (.c (.t (.int .i64 1)))⟩,⟨some 30,none,.mv (.t 42)⟩]))))))) (.seq (.ops [⟨some 6,none,.mv (.c (.t (.bool true)))⟩]) .ret)))))
theorem k_impl_SheetFits:comp Tryd.prog 43 (Tryd.f69.body.getD .skip)=some c_impl_SheetFits:=by kernel_rfl
theorem impl_SheetFits0 (kind key:List UInt8) (words:List (List UInt8)) (hws:StrsOk words)  (σ:Store):ACalls Tryd.prog 69 [.t (.str (kind)),.t (.str (key)),.t (tStrs words)] σ fun rr σ'=>rr=.t (.bool (fitsR kind key words))∧σ'=σ:=by
 refine acalls_of Tryd.func69 (by decide +kernel) (code:=Tryd.f69.body.getD .skip) (n:=43) (c:=c_impl_SheetFits) (rs:=[(.tmp 6)]) rfl rfl k_impl_SheetFits (by kernel_rfl) (by simp) (fun hσ=>?_)
 have hh:True:=trivial
 have fin:∀ {u:V} {τ:Store},u=.t (.bool (fitsR kind key words))→u.lt σ.length=true→retV σ.length (fun rr σ'=>rr=.t (.bool (fitsR kind key words))∧σ'=σ) (σ++τ) (some [u]):=fun h h2=>ret_same rfl hσ h2 ⟨h,rfl⟩
 have fin0:∀ {u:V},u=.t (.bool (fitsR kind key words))→retV σ.length (fun rr σ'=>rr=.t (.bool (fitsR kind key words))∧σ'=σ) σ (some [u]):=fun h=>ret_same0 rfl ⟨h,rfl⟩
 have y1:=(rules_small kind).1
 simp -implicitDefEqProofs only [c_impl_SheetFits,zZ,zA,zB,zC,zD,zE,zG,zH,zI,zJ,zK,if_true,if_false,reduceCtorEq,zW,zX,zY,za,zb]
 refine call_pure (impl_find kind key _) ?_
 rcases rule_two kind key with ⟨hi,hr⟩ | ⟨i,y,hy,hi,hr⟩
 ·have hres:fitsR kind key words=false:=by rw [fitsR,hr]
  rw [hi,hr,ruleV]
  have d1:decide ((-1:Int)<0)=true:=rfl
  simp -implicitDefEqProofs only [d1,cond_t,cond_f,zZ,zA,zB,zC,zD,zE,zG,zH,zI,zJ,zK,if_true,if_false,reduceCtorEq,zW,zX,zY,za,zb]
  first | exact fin0 (tb hres.symm) | exact fin (tb hres.symm) rfl
 have hrx:=hr
 have hres:fitsR kind key words=(y.Args.length == words.length && y.Args.zipIdx.all (fitP words)):=by rw [fitsR,hr]
 rw [hi,hr,ruleV,SheetRule.vs]
 have d1:decide (((i:Nat):Int)<0)=false:=by simp
 have g0:=rule_args hr
 simp -implicitDefEqProofs only [d1,cond_t,cond_f,zh,zZ,zA,zB,zC,zD,zE,zG,zH,zI,zJ,zK,if_true,if_false,reduceCtorEq,zW,zX,zY,za,zb]
 refine cond_split (fun h=>?_) (fun h=>?_)
 ·have hne:(y.Args.length == words.length)=false:=by
   have:¬ ((words.length:Nat):Int)=((y.Args.length:Nat):Int):=by simpa using h
   simp; omega
  simp -implicitDefEqProofs only [zZ,zA,zB,zC,zD,zE,zG,zH,zI,zJ,zK,if_true,if_false,reduceCtorEq,zW,zX,zY,za,zb]
  first | exact fin0 (tb (by rw [hres,hne]; rfl)) | exact fin (tb (by rw [hres,hne]; rfl)) rfl
 have hlen:y.Args.length=words.length:=by
  have:((words.length:Nat):Int)=((y.Args.length:Nat):Int):=by simpa using h
  omega
 have hle:(y.Args.length == words.length)=true:=by simp [hlen]
 rw [hle,Bool.true_and] at hres
 simp -implicitDefEqProofs only [zh,zZ,zA,zB,zC,zD,zE,zG,zH,zI,zJ,zK,if_true,if_false,reduceCtorEq,zW,zX,zY,za,zb]
 refine loop_p [30,2,28,29] [2,28,29] (fun k:Nat=>[(30,.t (.int .i64 (k:Nat)))]) (fun k=>k≤(y.Args).length∧((y.Args).zipIdx.take k).all (fitP words)=true) (fun k=>(y.Args).length - k) 0 (by simp) ⟨Nat.zero_le _,rfl⟩ rfl ?_
 rintro k ⟨hk,hall⟩
 simp -implicitDefEqProofs only [keep,zh,zZ,zA,zB,zC,zD,zE,zG,zH,zI,zJ,zK,if_true,if_false,reduceCtorEq,zW,zX,zY,za,zb]
 refine cond_split (fun h1=>?_) (fun h1=>?_)
 ·obtain ⟨x,hx,hlt⟩:=at_of h1
  clear h1 hh
  have hh:True:=trivial
  obtain ⟨w,hw⟩:∃ w,words[k]?=some w:=⟨words[k]'(by omega),List.getElem?_eq_getElem (by omega)⟩
  have hwl:w.length≤1048576:=hws.2 w (List.mem_of_getElem? hw)
  have ht:=(rule_args hrx).2 x (List.mem_of_getElem? hx)
  have hfp:fitP words (x,k)=typeOk x w:=by simp [fitP,hw]
  simp -implicitDefEqProofs only [hx,zV,zd,zm,yA,hw,tInt,tStr,zu,zx,i64_succ (show k<4611686018427387904 by omega),zZ,zA,zB,zC,zD,zE,zG,zH,zI,zJ,zK,if_true,if_false,reduceCtorEq,zW,zX,zY,za,zb]
  repeat' (first
  | ((with_reducible refine cond_known (fun h=>?_) (fun h=>?_)) <;> (replace hh:=And.intro h hh; clear h; simp -implicitDefEqProofs only [hh,cond_t,cond_f,hx,zV,zd,zm,yA,hw,tInt,tStr,zu,zx,i64_succ (show k<4611686018427387904 by omega),zZ,zA,zB,zC,zD,zE,zG,zH,zI,zJ,zK,if_true,if_false,reduceCtorEq,zW,zX,zY,za,zb]))
  | ((with_reducible refine call_pure (impl_isType x w ht hwl _) ?_); simp -implicitDefEqProofs only [hh,cond_t,cond_f,hx,zV,zd,zm,yA,hw,tInt,tStr,zu,zx,i64_succ (show k<4611686018427387904 by omega),zZ,zA,zB,zC,zD,zE,zG,zH,zI,zJ,zK,if_true,if_false,reduceCtorEq,zW,zX,zY,za,zb])
  | (first | ((with_reducible refine fin0 ?_); refine tb ?_; (try simp only [Known] at hh); have hno:=all_not (l:=(y.Args).zipIdx) (p:=(fitP words)) (zip_at hx); rw [hres]; grind) | ((with_reducible refine fin ?_ ?_); rotate_left; exact rfl; refine tb ?_; (try simp only [Known] at hh); have hno:=all_not (l:=(y.Args).zipIdx) (p:=(fitP words)) (zip_at hx); rw [hres]; grind) | (refine lk_p0 (k+1) (by simp) (by simp) (by omega) ⟨by omega,all_step (zip_at hx) hall ?_⟩ rfl; (try simp only [Known] at hh); rw [hfp]; grind) | (refine lk_p (k+1) (by simp) (by simp) hσ rfl (by omega) ⟨by omega,all_step (zip_at hx) hall ?_⟩ rfl rfl; (try simp only [Known] at hh); rw [hfp]; grind) | (refine lk_pm (k+1) (Nat.le_refl _) (by simp) hσ rfl rfl (by omega) ⟨by omega,all_step (zip_at hx) hall ?_⟩ (by simp [ltE,keep,eget,V.lt]) rfl; (try simp only [Known] at hh); rw [hfp]; grind)))
 replace hall:=all_len hall ((end_of h1 hk).trans (by simp))
 clear h1 hk
 simp -implicitDefEqProofs only [zZ,zA,zB,zC,zD,zE,zG,zH,zI,zJ,zK,if_true,if_false,reduceCtorEq,zW,zX,zY,za,zb]
 (first | ((with_reducible refine fin0 ?_); refine tb ?_; (try simp only [Known] at hh); rw [hres]; grind) | ((with_reducible refine fin ?_ ?_); rotate_left; exact rfl; refine tb ?_; (try simp only [Known] at hh); rw [hres]; grind))
end Go.Proofs.YtnnnemgbgilfaaaDoor.W
end
