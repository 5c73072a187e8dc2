/- Readers of codes: what they draw. Conditions: none. -/
/- Words that are drawn. Conditions: none. -/
/- Lines that are drawn. Conditions: none. -/
import Derived.Test.YtnnnemgbgilfaaaDoorSheetValid
import Derived.KernelRfl
set_option linter.unusedSimpArgs false
set_option linter.unusedVariables false
set_option linter.defProp false
open Go.Ab renaming eget → zC, env0 → zD, isNilP → zI, isNilS → zJ, lenSl → zH, lenStr → zG, nat_nn → zV, opv → zA, opvs → zB, putAt → zK, setD → zE
open List renaming length_append → zt, length_map → zh
open Nat renaming reduceAdd → zb, reduceEqDiff → zX, reduceLeDiff → zW, reduceMul → za, reduceSub → zY, zero_le → zd
section
open Go Go.Ab
set_option maxHeartbeats 2000000
namespace Go.Proofs.YtnnnemgbgilfaaaDoor.W
abbrev rdV (l:List UInt8) (p:Nat):List V:=[.t (.lst 1 (byteT l)),.t (.int .i64 (p:Nat))]
def PickR (l:List UInt8) (p n id:Nat) (σ:Store) (r:V) (σ':Store):Prop:=∃ x:Nat,r=.t (.int .i64 (x:Nat))∧x<n∧σ'=σ.set id (.box (rdV l (p+1)))
def c___spec_l37Rd__pick:C:=(.seq (.ops [⟨some 4,none,.mv (.c (.t (.int .i64 0)))⟩]) (.seq (.ops [⟨some 7,none,.mv (.t 0)⟩,⟨some 8,none,.mv (.t 0)⟩,⟨some 9,none,.nilCheck (.t 8)⟩,⟨some 10,none,.fieldAddr 1 (.t 9)⟩,⟨some 11,none,.load none (.t 10)⟩,⟨some 12,none,.bin .add (.t 11) (.c (.t (.int .i64 1)))⟩,⟨some 13,none,.nilCheck (.t 7)⟩,⟨some 14,none,.fieldAddr 1 (.t 13)⟩,⟨none,none,.store 1 (.t 14) (.t 12)⟩]) (.seq (.seq (.ops [⟨some 15,none,.mv (.t 1)⟩,⟨some 16,none,.bin .lss (.t 15) (.c (.t (.int .i64 1)))⟩,⟨some 17,none,.mv (.t 16)⟩,⟨some 18,some ⟨17,false⟩,.mv (.t 0)⟩,⟨some 19,some ⟨17,false⟩,.nilCheck (.t 18)⟩,⟨some 20,some ⟨17,false⟩,.fieldAddr 0 (.t 19)⟩,⟨some 21,some ⟨17,false⟩,.load none (.t 20)⟩,⟨some 22,some ⟨17,false⟩,.len false (.t 21)⟩,⟨some 23,some ⟨17,false⟩,.bin .eql (.t 22) (.c (.t (.int .i64 0)))⟩,⟨some 24,none,.pick (.t 17) (.c (.t (.bool true))) (.t 23)⟩]) (.cond (.t 24) (.seq (.ops [⟨some 4,none,.mv (.c (.t (.int .i64 0)))⟩]) .ret) .skip)) (.seq (.ops [⟨some 25,none,.mv (.t 0)⟩,⟨some 26,none,.nilCheck (.t 25)⟩,⟨some 27,none,.fieldAddr 1 (.t 26)⟩,⟨some 28,none,.load none (.t 27)⟩,⟨some 29,none,.bin .sub (.t 28) (.c (.t (.int .i64 1)))⟩,⟨some 5,none,.mv (.t 29)⟩]) (.seq (.seq (.ops [⟨some 30,none,.mv (.t 5)⟩,⟨some 31,none,.mv (.t 0)⟩,⟨some 32,none,.nilCheck (.t 31)⟩,⟨some 33,none,.fieldAddr 0 (.t 32)⟩,⟨some 34,none,.load none (.t 33)⟩,⟨some 35,none,.len false (.t 34)⟩,⟨some 36,none,.bin .lss (.t 30) (.t 35)⟩]) (.cond (.t 36) (.seq (.ops [⟨some 37,none,.mv (.t 0)⟩,⟨some 38,none,.nilCheck (.t 37)⟩,⟨some 39,none,.fieldAddr 0 (.t 38)⟩,⟨some 40,none,.load none (.t 39)⟩,⟨some 41,none,.mv (.t 5)⟩,⟨some 42,none,.indexAddr 1 (.t 40) (.t 41)⟩,⟨some 43,none,.load none (.t 42)⟩,⟨some 44,none,.convInt .i64 (.t 43)⟩,⟨some 45,none,.mv (.t 1)⟩,⟨some 46,none,.bin .rem (.t 44) (.t 45)⟩,⟨some 4,none,.mv (.t 46)⟩]) .ret) .skip)) (.seq (.drawn [.mk 0 false ⟨some 47,none,.mv (.t 0)⟩ [],.mk 1 false ⟨some 48,none,.nilCheck (.t 47)⟩ [],.mk 2 false ⟨some 49,none,.fieldAddr 0 (.t 48)⟩ [],.mk 3 false ⟨some 50,none,.load none (.t 49)⟩ [],.mk 4 false ⟨some 51,none,.mv (.t 5)⟩ [],.mk 5 false ⟨some 52,none,.mv (.t 0)⟩ [],.mk 6 false ⟨some 53,none,.nilCheck (.t 52)⟩ [],.mk 7 false ⟨some 54,none,.fieldAddr 0 (.t 53)⟩ [],.mk 8 false ⟨some 55,none,.load none (.t 54)⟩ [],.mk 9 false ⟨some 56,none,.len false (.t 55)⟩ [],.mk 10 false ⟨some 57,none,.bin .rem (.t 51) (.t 56)⟩ [],.mk 11 false ⟨some 58,none,.indexAddr 1 (.t 50) (.t 57)⟩ [],.mk 12 false ⟨some 59,none,.load none (.t 58)⟩ [],.mk 13 false ⟨some 60,none,.convInt .i64 (.t 59)⟩ [],.mk 14 false ⟨some 61,none,.bin .mul (.t 60) (.c (.t (.int .i64 131)))⟩ [],.mk 15 false ⟨some 62,none,.mv (.t 0)⟩ [],.mk 16 false ⟨some 63,none,.nilCheck (.t 62)⟩ [],.mk 17 false ⟨some 64,none,.fieldAddr 0 (.t 63)⟩ [],.mk 18 false ⟨some 65,none,.load none (.t 64)⟩ [],.mk 19 false ⟨some 66,none,.mv (.t 5)⟩ [],.mk 20 false ⟨some 67,none,.bin .mul (.t 66) (.c (.t (.int .i64 7)))⟩ [],.mk 21 false ⟨some 68,none,.bin .add (.t 67) (.c (.t (.int .i64 3)))⟩ [],.mk 22 false ⟨some 69,none,.mv (.t 0)⟩ [],.mk 23 false ⟨some 70,none,.nilCheck (.t 69)⟩ [],.mk 24 false ⟨some 71,none,.fieldAddr 0 (.t 70)⟩ [],.mk 25 false ⟨some 72,none,.load none (.t 71)⟩ [],.mk 26 false ⟨some 73,none,.len false (.t 72)⟩ [],.mk 27 false ⟨some 74,none,.bin .rem (.t 68) (.t 73)⟩ [],.mk 28 false ⟨some 75,none,.indexAddr 1 (.t 65) (.t 74)⟩ [],.mk 29 false ⟨some 76,none,.load none (.t 75)⟩ [],.mk 30 false ⟨some 77,none,.convInt .i64 (.t 76)⟩ [],.mk 31 false ⟨some 78,none,.bin .mul (.t 77) (.c (.t (.int .i64 1117)))⟩ [],.mk 32 false ⟨some 79,none,.bin .add (.t 61) (.t 78)⟩ [],.mk 33 false ⟨some 80,none,.mv (.t 5)⟩ [],.mk 34 false ⟨some 81,none,.bin .mul (.t 80) (.c (.t (.int .i64 29)))⟩ [],.mk 35 false ⟨some 82,none,.bin .add (.t 79) (.t 81)⟩ [],.mk 36 false ⟨some 83,none,.mv (.t 5)⟩ [],.mk 37 false ⟨some 84,none,.mv (.t 0)⟩ [],.mk 38 false ⟨some 85,none,.nilCheck (.t 84)⟩ [],.mk 39 false ⟨some 86,none,.fieldAddr 0 (.t 85)⟩ [],.mk 40 false ⟨some 87,none,.load none (.t 86)⟩ [],.mk 41 false ⟨some 88,none,.len false (.t 87)⟩ [],.mk 42 false ⟨some 89,none,.bin .quo (.t 83) (.t 88)⟩ [],.mk 43 false ⟨some 90,none,.bin .mul (.t 89) (.c (.t (.int .i64 53)))⟩ [],.mk 44 false ⟨some 91,none,.bin .add (.t 82) (.t 90)⟩ [],.mk 45 false ⟨some 6,none,.mv (.t 91)⟩ []]) (.seq (.ops [⟨some 92,none,.mv (.t 6)⟩,⟨some 93,none,.mv (.t 6)⟩,⟨some 94,none,.bin .quo (.t 93) (.c (.t (.int .i64 64)))⟩,⟨some 95,none,.bin .xor (.t 92) (.t 94)⟩,⟨some 6,none,.mv (.t 95)⟩]) (.seq (.ops [⟨some 96,none,.mv (.t 6)⟩,⟨some 97,none,.mv (.t 1)⟩,⟨some 98,none,.bin .rem (.t 96) (.t 97)⟩,⟨some 4,none,.mv (.t 98)⟩]) .ret))))))))
theorem k___spec_l37Rd__pick:comp Tryd.prog 99 (Tryd.f47.body.getD .skip)=some c___spec_l37Rd__pick:=by kernel_rfl
set_option maxRecDepth 20000 in
theorem pick_n (l:List UInt8) (hl:l.length≤2000) (p n id:Nat) (hp:p<1000000000) (hn:1≤n) (hn2:n≤1000000) (σ:Store) (hid:σ[id]?=some (.box (rdV l p))):ACalls Tryd.prog 47 [.ptr id 0,.t (.int .i64 (n:Nat))] σ (PickR l p n id σ):=by
 refine acalls_of Tryd.func47 (by decide +kernel) (code:=Tryd.f47.body.getD .skip) (n:=99) (c:=c___spec_l37Rd__pick) (rs:=[(.tmp 4)]) rfl rfl k___spec_l37Rd__pick (by kernel_rfl) (by simp) (fun hσ=>?_)
 have hidl:=(List.getElem?_eq_some_iff.1 hid).1
 have s1:∀ o,(σ.set id o)[id]?=some o:=fun o=>List.getElem?_set_self hidl
 have more:=i64_succ (show p<4611686018427387904 by omega)
 have back:IntKind.i64.wrap (((p+1:Nat):Int) - 1)=((p:Nat):Int):=by rw [IntWalk.i64_in _ (by omega)]; omega
 have n1:decide (((n:Nat):Int)<1)=false:=by simp; omega
 have n0:((((n:Nat):Int))≠0)=True:=eq_true (by omega)
 have bl:σ.length≤(σ.set id (.box (rdV l (p+1)))).length:=by rw [List.length_set]; exact Nat.le_refl _
 have fin:∀ x:Nat,x<n→retV σ.length (PickR l p n id σ) (σ.set id (.box (rdV l (p+1)))) (some [.t (.int .i64 (x:Nat))]):=fun x hx=>fin_keep bl ⟨x,rfl,hx,rfl⟩
 simp -implicitDefEqProofs only [c___spec_l37Rd__pick,hid,s1,zV,zd,zh,byteT_len,more,n1,cond_t,cond_f,zZ,zA,zB,zC,zD,zE,zG,zH,zI,zJ,zK,if_true,if_false,reduceCtorEq,zW,zX,zY,za,zb]
 refine cond_split (fun h0=>?_) (fun h0=>?_)
 ·simp -implicitDefEqProofs only [zZ,zA,zB,zC,zD,zE,zG,zH,zI,zJ,zK,if_true,if_false,reduceCtorEq,zW,zX,zY,za,zb]
  exact fin 0 (by omega)
 have hl0:1≤l.length:=by
  have:¬ ((l.length:Nat):Int)=0:=by simpa using h0
  omega
 have l0:((((l.length:Nat):Int))≠0)=True:=eq_true (by omega)
 simp -implicitDefEqProofs only [hid,s1,zV,zd,zh,byteT_len,more,back,zZ,zA,zB,zC,zD,zE,zG,zH,zI,zJ,zK,if_true,if_false,reduceCtorEq,zW,zX,zY,za,zb]
 refine cond_split (fun h1=>?_) (fun h1=>?_)
 ·have hpl:p<l.length:=by simpa using h1
  have hc:=byteT_at hpl
  have e1:IntKind.i64.wrap ((l[p].toNat:Nat):Int)=((l[p].toNat:Nat):Int):=IntWalk.i64_in _ (by have:=l[p].toNat_lt; omega)
  simp -implicitDefEqProofs only [hid,s1,zV,zd,zh,byteT_len,more,back,hc,e1,n0,tmod_nat,zZ,zA,zB,zC,zD,zE,zG,zH,zI,zJ,zK,if_true,if_false,reduceCtorEq,zW,zX,zY,za,zb]
  exact fin _ (Nat.mod_lt _ (by omega))
 have k1:p % l.length<l.length:=Nat.mod_lt _ (by omega)
 have k2:(p * 7+3) % l.length<l.length:=Nat.mod_lt _ (by omega)
 have c1:=byteT_at k1
 have c2:=byteT_at k2
 have z1:=l[p % l.length].toNat_lt
 have z2:=l[(p * 7+3) % l.length].toNat_lt
 generalize l[p % l.length].toNat=y1 at *
 generalize l[(p * 7+3) % l.length].toNat=y2 at *
 have hq:p / l.length≤p:=Nat.div_le_self _ _
 have w1:IntKind.i64.wrap ((p:Int) * 7)=((p * 7:Nat):Int):=by rw [IntWalk.i64_in _ (by omega)]; omega
 have w2:IntKind.i64.wrap (((p * 7:Nat):Int)+3)=((p * 7+3:Nat):Int):=by rw [IntWalk.i64_in _ (by omega)]; omega
 have w3:IntKind.i64.wrap ((y1:Nat):Int)=((y1:Nat):Int):=IntWalk.i64_in _ (by omega)
 have w4:IntKind.i64.wrap ((y2:Nat):Int)=((y2:Nat):Int):=IntWalk.i64_in _ (by omega)
 have w5:IntKind.i64.wrap ((y1:Int) * 131)=((y1 * 131:Nat):Int):=by rw [IntWalk.i64_in _ (by omega)]; omega
 have w6:IntKind.i64.wrap ((y2:Int) * 1117)=((y2 * 1117:Nat):Int):=by rw [IntWalk.i64_in _ (by omega)]; omega
 obtain ⟨a1,ha1⟩:∃ a,a=y1 * 131+y2 * 1117:=⟨_,rfl⟩
 have w7:IntKind.i64.wrap (((y1 * 131:Nat):Int)+((y2 * 1117:Nat):Int))=((a1:Nat):Int):=by rw [IntWalk.i64_in _ (by omega)]; omega
 have w8:IntKind.i64.wrap ((p:Int) * 29)=((p * 29:Nat):Int):=by rw [IntWalk.i64_in _ (by omega)]; omega
 obtain ⟨a2,ha2⟩:∃ a,a=a1+p * 29:=⟨_,rfl⟩
 have w9:IntKind.i64.wrap (((a1:Nat):Int)+((p * 29:Nat):Int))=((a2:Nat):Int):=by rw [IntWalk.i64_in _ (by omega)]; omega
 obtain ⟨d,hd⟩:∃ d,d=p / l.length:=⟨_,rfl⟩
 rw [← hd] at hq
 have w10:IntKind.i64.wrap ((d:Int) * 53)=((d * 53:Nat):Int):=by rw [IntWalk.i64_in _ (by omega)]; omega
 have w12:IntKind.i64.wrap ((d:Nat):Int)=((d:Nat):Int):=IntWalk.i64_in _ (by omega)
 obtain ⟨X,hX0⟩:∃ a,a=a2+d * 53:=⟨_,rfl⟩
 have w11:IntKind.i64.wrap (((a2:Nat):Int)+((d * 53:Nat):Int))=((X:Nat):Int):=by rw [IntWalk.i64_in _ (by omega)]; omega
 have hX:X<9223372036854775808:=by omega
 have td:((p:Nat):Int).tdiv ((l.length:Nat):Int)=((d:Nat):Int):=by rw [hd]; rfl
 have n64:((64:Int)≠0)=True:=by simp
 have t64:((X:Nat):Int).tdiv 64=((X / 64:Nat):Int):=rfl
 have hx64:X / 64≤X:=Nat.div_le_self _ _
 have w13:IntKind.i64.wrap ((X / 64:Nat):Int)=((X / 64:Nat):Int):=IntWalk.i64_in _ (by omega)
 have x1:=i64_xor_nat X (X / 64) hX (by omega)
 simp -implicitDefEqProofs only [hid,s1,zV,zd,zh,byteT_len,more,back,c1,c2,l0,n0,n64,tmod_nat,td,w1,w2,w3,w4,w5,w6,w7,w8,w9,w10,w11,w12,w13,t64,x1,zZ,zA,zB,zC,zD,zE,zG,zH,zI,zJ,zK,if_true,if_false,reduceCtorEq,zW,zX,zY,za,zb]
 exact fin _ (Nat.mod_lt _ (by omega))
def c_spec_l37Open:C:=(.seq (.ops [⟨some 2,none,.mv (.c .nilp)⟩]) (.seq (.seq (.ops [⟨some 3,none,.mv (.t 0)⟩,⟨some 4,none,.len false (.t 3)⟩,⟨some 5,none,.bin .gtr (.t 4) (.c (.t (.int .i64 2000)))⟩]) (.cond (.t 5) (.ops [⟨some 6,none,.mv (.t 0)⟩,⟨some 7,none,.sliceSl 1 (.t 6) none (some (.c (.t (.int .i64 2000))))⟩,⟨some 0,none,.mv (.t 7)⟩]) .skip)) (.seq (.ops [⟨some 8,none,.mv (.t 0)⟩,⟨some 9,none,.build [.nils,.t (.int .i64 0)] [⟨0,⟨1,.t 8⟩⟩]⟩,⟨some 10,none,.box (.t 9)⟩,⟨some 2,none,.mv (.t 10)⟩]) .ret)))
theorem k_spec_l37Open:comp Tryd.prog 11 (Tryd.f24.body.getD .skip)=some c_spec_l37Open:=by kernel_rfl
theorem open_rd (c:List UInt8) (σ:Store):ACalls Tryd.prog 24 [.t (.lst 1 (byteT c))] σ fun r σ'=>∃ l:List UInt8,l.length≤2000∧r=.ptr σ.length 0∧σ'=σ++[.box (rdV l 0)]:=by
 refine acalls_of Tryd.func24 (by decide +kernel) (code:=Tryd.f24.body.getD .skip) (n:=11) (c:=c_spec_l37Open) (rs:=[(.tmp 2)]) rfl rfl k_spec_l37Open (by kernel_rfl) (by simp) (fun hσ=>?_)
 have tk:(byteT c).take 2000=byteT (c.take 2000):=by simp [byteT,List.map_take]
 have c1:((0:Int)≤2000)=True:=by simp
 have c2:Int.toNat 2000=2000:=rfl
 simp -implicitDefEqProofs only [c_spec_l37Open,byteT_len,zZ,zA,zB,zC,zD,zE,zG,zH,zI,zJ,zK,if_true,if_false,reduceCtorEq,zW,zX,zY,za,zb]
 refine cond_split (fun h=>?_) (fun h=>?_)
 ·have h2:2000≤c.length:=by simp at h; omega
  simp -implicitDefEqProofs only [byteT_len,c1,c2,h2,zd,List.drop_zero,tk,zZ,zA,zB,zC,zD,zE,zG,zH,zI,zJ,zK,if_true,if_false,reduceCtorEq,zW,zX,zY,za,zb]
  exact fin_keep (by simp) ⟨c.take 2000,by rw [List.length_take]; omega,rfl,rfl⟩
 ·simp -implicitDefEqProofs only [zZ,zA,zB,zC,zD,zE,zG,zH,zI,zJ,zK,if_true,if_false,reduceCtorEq,zW,zX,zY,za,zb]
  exact fin_keep (by simp) ⟨c,by simp at h; omega,rfl,rfl⟩
def c_spec_l37Many:C:=(.seq (.ops [⟨some 4,none,.mv (.c (.t (.str [])))⟩]) (.seq (.ops [⟨some 5,none,.mv (.c (.t (.str [])))⟩]) (.seq (.block 0 (.loop (.seq (.seq (.ops [⟨some 6,none,.mv (.t 1)⟩,⟨some 7,none,.bin .gtr (.t 6) (.c (.t (.int .i64 0)))⟩]) (.cond (.t 7) .skip (.exit 0))) (.block 1 (.seq (.seq (.ops [⟨some 8,none,.mv (.t 1)⟩,⟨some 9,none,.bin .rem (.t 8) (.c (.t (.int .i64 2)))⟩,⟨some 10,none,.bin .eql (.t 9) (.c (.t (.int .i64 1)))⟩]) (.cond (.t 10) (.ops [⟨some 11,none,.mv (.t 5)⟩,⟨some 12,none,.mv (.t 0)⟩,⟨some 13,none,.bin .add (.t 11) (.t 12)⟩,⟨some 5,none,.mv (.t 13)⟩]) .skip)) (.seq (.ops [⟨some 14,none,.mv (.t 0)⟩,⟨some 15,none,.mv (.t 0)⟩,⟨some 16,none,.bin .add (.t 14) (.t 15)⟩,⟨some 0,none,.mv (.t 16)⟩]) (.ops [⟨some 17,none,.mv (.t 1)⟩,⟨some 18,none,.bin .quo (.t 17) (.c (.t (.int .i64 2)))⟩,⟨some 1,none,.mv (.t 18)⟩]))))))) (.seq (.ops [⟨some 19,none,.mv (.t 5)⟩,⟨some 4,none,.mv (.t 19)⟩]) .ret))))
theorem k_spec_l37Many:comp Tryd.prog 20 (Tryd.f100.body.getD .skip)=some c_spec_l37Many:=by kernel_rfl
structure Gm where
 s:List UInt8
 n:Nat
 o:List UInt8
theorem many_n (s:List UInt8) (n:Nat) (hs:s.length≤1000) (hn:n≤1000) (σ:Store):ACalls Tryd.prog 100 [.t (.str s),.t (.int .i64 (n:Nat))] σ fun r σ'=>(∃ o:List UInt8,r=.t (.str o)∧o.length=n * s.length)∧σ'=σ:=by
 refine acalls_of Tryd.func100 (by decide +kernel) (code:=Tryd.f100.body.getD .skip) (n:=20) (c:=c_spec_l37Many) (rs:=[(.tmp 4)]) rfl rfl k_spec_l37Many (by kernel_rfl) (by simp) (fun hσ=>?_)
 simp -implicitDefEqProofs only [c_spec_l37Many,zZ,zA,zB,zC,zD,zE,zG,zH,zI,zJ,zK,if_true,if_false,reduceCtorEq,zW,zX,zY,za,zb]
 refine loop_p [0,1,5] [] (fun g:Gm=>[(0,.t (.str g.s)),(1,.t (.int .i64 (g.n:Nat))),(5,.t (.str g.o))]) (fun g=>g.o.length+g.n * g.s.length=n * s.length∧g.n≤n∧g.s.length≤4000000∧(1≤g.n→g.n * g.s.length≤1000000)) (fun g=>g.n) ⟨s,n,[]⟩ (by simp) ⟨by simp,Nat.le_refl _,show s.length≤4000000 by omega,fun _=>Nat.mul_le_mul hn hs⟩ rfl ?_
 rintro ⟨t,k,o⟩ ⟨h1,h2,h3,h4⟩
 simp only at h1 h2 h3 h4
 simp -implicitDefEqProofs only [keep,zZ,zA,zB,zC,zD,zE,zG,zH,zI,zJ,zK,if_true,if_false,reduceCtorEq,zW,zX,zY,za,zb]
 refine cond_split (fun h=>?_) (fun h=>?_)
 ·have hk:1≤k:=by simp at h; omega
  have h5:=h4 hk
  have hnm:n * s.length≤1000000:=Nat.mul_le_mul hn hs
  have hto:o.length+t.length≤2000000:=by
   have:t.length≤k * t.length:=Nat.le_mul_of_pos_left _ hk
   omega
  have htt:t.length≤1000000:=by
   have:t.length≤k * t.length:=Nat.le_mul_of_pos_left _ hk
   omega
  have m2:((k:Nat):Int).tmod 2=((k % 2:Nat):Int):=rfl
  have d2:((k:Nat):Int).tdiv 2=((k / 2:Nat):Int):=rfl
  have n2:((2:Int)≠0)=True:=by simp
  have wd:IntKind.i64.wrap ((k / 2:Nat):Int)=((k / 2:Nat):Int):=IntWalk.i64_in _ (by omega)
  have b1:((o.length+t.length:Nat):Int)≤9223372036854775807:=by omega
  have b2:((t.length+t.length:Nat):Int)≤9223372036854775807:=by omega
  have hdm:2 * (k / 2)+k % 2=k:=Nat.div_add_mod k 2
  simp -implicitDefEqProofs only [m2,d2,n2,wd,b1,b2,zZ,zA,zB,zC,zD,zE,zG,zH,zI,zJ,zK,if_true,if_false,reduceCtorEq,zW,zX,zY,za,zb]
  refine cond_split (fun g=>?_) (fun g=>?_)
  ·have hk1:k % 2=1:=by
    have:((k % 2:Nat):Int)=1:=by simpa using g
    omega
   simp -implicitDefEqProofs only [m2,d2,n2,wd,b1,b2,zZ,zA,zB,zC,zD,zE,zG,zH,zI,zJ,zK,if_true,if_false,reduceCtorEq,zW,zX,zY,za,zb]
   refine lk_p0 ⟨t++t,k / 2,o++t⟩ (by simp) rfl (by simp only; omega) ⟨?_,by simp only; omega,by simp only [zt]; omega,fun hh=>?_⟩ rfl
   ·simp only [zt]
    have e:k * t.length=2 * (k / 2) * t.length+t.length:=by
     conv=>lhs; rw [← hdm,hk1,Nat.add_mul,Nat.one_mul]
    rw [show k / 2 * (t.length+t.length)=2 * (k / 2) * t.length by rw [Nat.mul_comm 2,Nat.mul_assoc,Nat.two_mul]]
    omega
   ·simp only [zt] at hh ⊢
    have e:k * t.length=2 * (k / 2) * t.length+t.length:=by
     conv=>lhs; rw [← hdm,hk1,Nat.add_mul,Nat.one_mul]
    rw [show k / 2 * (t.length+t.length)=2 * (k / 2) * t.length by rw [Nat.mul_comm 2,Nat.mul_assoc,Nat.two_mul]]
    omega
  ·have hk1:k % 2=0:=by
    have:¬ ((k % 2:Nat):Int)=1:=by simpa using g
    omega
   simp -implicitDefEqProofs only [m2,d2,n2,wd,b1,b2,zZ,zA,zB,zC,zD,zE,zG,zH,zI,zJ,zK,if_true,if_false,reduceCtorEq,zW,zX,zY,za,zb]
   refine lk_p0 ⟨t++t,k / 2,o⟩ (by simp) rfl (by simp only; omega) ⟨?_,by simp only; omega,by simp only [zt]; omega,fun hh=>?_⟩ rfl
   ·simp only [zt]
    have e:k * t.length=2 * (k / 2) * t.length:=by
     conv=>lhs; rw [← hdm,hk1,Nat.add_zero]
    rw [show k / 2 * (t.length+t.length)=2 * (k / 2) * t.length by rw [Nat.mul_comm 2,Nat.mul_assoc,Nat.two_mul]]
    omega
   ·simp only [zt] at hh ⊢
    have e:k * t.length=2 * (k / 2) * t.length:=by
     conv=>lhs; rw [← hdm,hk1,Nat.add_zero]
    rw [show k / 2 * (t.length+t.length)=2 * (k / 2) * t.length by rw [Nat.mul_comm 2,Nat.mul_assoc,Nat.two_mul]]
    omega
 ·have hk:k=0:=by simp at h; omega
  subst hk
  simp -implicitDefEqProofs only [zZ,zA,zB,zC,zD,zE,zG,zH,zI,zJ,zK,if_true,if_false,reduceCtorEq,zW,zX,zY,za,zb]
  rw [Nat.zero_mul,Nat.add_zero] at h1
  exact ret_same0 rfl ⟨⟨o,rfl,h1⟩,rfl⟩
end Go.Proofs.YtnnnemgbgilfaaaDoor.W
end
section
open Go Go.Ab
set_option maxHeartbeats 2000000
namespace Go.Proofs.YtnnnemgbgilfaaaDoor.W
def strLe (m:Nat) (r:List V):Bool:=match r with
 | [.t (.str w)]=>decide (w.length≤m)
 | _=>false
theorem strLe_c (m:Nat) (w:List UInt8):strLe m [.t (.str w)]=decide (w.length≤m):=rfl
theorem pick_row {rs:List (List V)} {y m:Nat} {K:Tok→List V→Prop} (hs:rs.all (strLe m)=true) (hy:y<rs.length) (hk:∀ w:List UInt8,w.length≤m→K .go [.t (.str w)]):onRow rs[y]? K:=by
 have h1:=List.all_eq_true.1 hs rs[y] (List.getElem_mem hy)
 rw [List.getElem?_eq_getElem hy]
 unfold strLe at h1
 split at h1
 ·rename_i w he
  rw [he]
  exact hk w (by simpa using h1)
 ·cases h1
theorem set_same {σ:Store} {id:Nat} {a b:Go.Ab.Obj}:(σ.set id a).set id b=σ.set id b:=by simp
def c_spec_l37Text:C:=(.seq (.ops [⟨some 2,none,.mv (.c (.t (.str [])))⟩]) (.seq (.ops [⟨some 3,none,.mv (.t 0)⟩,⟨some 4,none,.call (.c (.fn (.func 47) [])) [.t 3,.c (.t (.int .i64 2))]⟩,⟨some 5,none,.bin .sub (.c (.t (.int .i64 200))) (.t 4)⟩,⟨some 6,none,.call (.c (.fn (.func 100) [])) [.c (.t (.str [116])),.t 5]⟩,⟨some 7,none,.lit none 1 8 [.t (.str [])] [⟨0,.c (.t (.str [122,111,110,101,61,101,97,115,116]))⟩,⟨1,.c (.t (.str [115,115,100,32,124,32,33,111,108,100]))⟩,⟨2,.c (.t (.str []))⟩,⟨3,.c (.t (.str [113,34,117,92,111,10,255]))⟩,⟨4,.c (.t (.str [97,35,98]))⟩,⟨5,.c (.t (.str [120]))⟩,⟨6,.c (.t (.str [116,119,111,32,119,111,114,100,115]))⟩,⟨7,.t 6⟩]⟩,⟨some 8,none,.mv (.t 0)⟩,⟨some 9,none,.call (.c (.fn (.func 47) [])) [.t 8,.c (.t (.int .i64 8))]⟩,⟨some 10,none,.indexAddr 1 (.t 7) (.t 9)⟩,⟨some 11,none,.load none (.t 10)⟩,⟨some 2,none,.mv (.t 11)⟩]) .ret))
theorem k_spec_l37Text:comp Tryd.prog 12 (Tryd.f122.body.getD .skip)=some c_spec_l37Text:=by kernel_rfl
set_option maxRecDepth 20000 in
theorem draw_text (l:List UInt8) (hl:l.length≤2000) (p id:Nat) (hp:p<900000000) (σ:Store) (hid:σ[id]?=some (.box (rdV l p))):ACalls Tryd.prog 122 [.ptr id 0] σ fun r σ'=>∃ w:List UInt8,r=.t (.str w)∧w.length≤200∧σ'=σ.set id (.box (rdV l (p+2))):=by
 refine acalls_of Tryd.func122 (by decide +kernel) (code:=Tryd.f122.body.getD .skip) (n:=12) (c:=c_spec_l37Text) (rs:=[(.tmp 2)]) rfl rfl k_spec_l37Text (by kernel_rfl) (by simp) (fun hσ=>?_)
 have hidl:=(List.getElem?_eq_some_iff.1 hid).1
 have s1:∀ o,(σ.set id o)[id]?=some o:=fun o=>List.getElem?_set_self hidl
 have bl:∀ o,σ.length≤(σ.set id o).length:=fun o=>by rw [List.length_set]; exact Nat.le_refl _
 simp -implicitDefEqProofs only [c_spec_l37Text,zZ,zA,zB,zC,zD,zE,zG,zH,zI,zJ,zK,if_true,if_false,reduceCtorEq,zW,zX,zY,za,zb]
 refine call_by (by rw [List.append_nil]; exact pick_n l hl p 2 id (by omega) (by omega) (by omega) _ hid) ?_
 rintro r σ' ⟨x,rfl,hx,rfl⟩
 have w1:IntKind.i64.wrap (200 - ((x:Nat):Int))=((200 - x:Nat):Int):=by rw [IntWalk.i64_in _ (by omega)]; omega
 simp -implicitDefEqProofs only [w1,zZ,zA,zB,zC,zD,zE,zG,zH,zI,zJ,zK,if_true,if_false,reduceCtorEq,zW,zX,zY,za,zb]
 refine call_by (by rw [List.append_nil]; exact many_n [116] (200 - x) (by simp) (by omega) _) ?_
 rintro r σ' ⟨⟨o,rfl,ho⟩,rfl⟩
 have ho2:decide (o.length≤200)=true:=by simp at ho ⊢; omega
 have c1:0<8∧1<8∧2<8∧3<8∧4<8∧5<8∧6<8∧7<8:=by omega
 simp -implicitDefEqProofs only [c1,List.replicate,zZ,zA,zB,zC,zD,zE,zG,zH,zI,zJ,zK,if_true,if_false,reduceCtorEq,zW,zX,zY,za,zb]
 refine lit_rows ?_
 simp -implicitDefEqProofs only [zZ,zA,zB,zC,zD,zE,zG,zH,zI,zJ,zK,if_true,if_false,reduceCtorEq,zW,zX,zY,za,zb]
 refine call_by (by rw [List.append_nil]; exact pick_n l hl (p+1) 8 id (by omega) (by omega) (by omega) _ (s1 _)) ?_
 rintro r σ' ⟨y,rfl,hy,rfl⟩
 simp -implicitDefEqProofs only [zV,zd,set_same,zZ,zA,zB,zC,zD,zE,zG,zH,zI,zJ,zK,if_true,if_false,reduceCtorEq,zW,zX,zY,za,zb]
 refine pick_row (m:=200) (by simp only [List.all_cons,List.all_nil,strLe_c,ho2,Bool.and_true]; decide) (by simpa using hy) ?_
 intro w hw
 simp -implicitDefEqProofs only [zZ,zA,zB,zC,zD,zE,zG,zH,zI,zJ,zK,if_true,if_false,reduceCtorEq,zW,zX,zY,za,zb]
 exact fin_keep (bl _) ⟨w,rfl,hw,rfl⟩
def c_spec_l38Odd:C:=(.seq (.ops [⟨some 2,none,.mv (.c (.t (.str [])))⟩]) (.seq (.ops [⟨some 3,none,.mv (.t 0)⟩,⟨some 4,none,.call (.c (.fn (.func 47) [])) [.t 3,.c (.t (.int .i64 2))]⟩,⟨some 5,none,.bin .add (.c (.t (.int .i64 20))) (.t 4)⟩,⟨some 6,none,.call (.c (.fn (.func 100) [])) [.c (.t (.str [110])),.t 5]⟩,⟨some 7,none,.call (.c (.fn (.func 100) [])) [.c (.t (.str [116])),.c (.t (.int .i64 201))]⟩,⟨some 8,none,.lit none 1 12 [.t (.str [])] [⟨0,.c (.t (.str []))⟩,⟨1,.c (.t (.str [48,49]))⟩,⟨2,.c (.t (.str [45,48]))⟩,⟨3,.c (.t (.str [49,48,48,48,48,48,49]))⟩,⟨4,.c (.t (.str [49,50,51,52,53,54,55,56]))⟩,⟨5,.c (.t (.str [120,32,121]))⟩,⟨6,.c (.t (.str [67,111,114,101]))⟩,⟨7,.c (.t (.str [109,97,121,98,101]))⟩,⟨8,.t 6⟩,⟨9,.c (.t (.str [45]))⟩,⟨10,.c (.t (.str [43,49]))⟩,⟨11,.t 7⟩]⟩,⟨some 9,none,.mv (.t 0)⟩,⟨some 10,none,.call (.c (.fn (.func 47) [])) [.t 9,.c (.t (.int .i64 12))]⟩,⟨some 11,none,.indexAddr 1 (.t 8) (.t 10)⟩,⟨some 12,none,.load none (.t 11)⟩,⟨some 2,none,.mv (.t 12)⟩]) .ret))
theorem k_spec_l38Odd:comp Tryd.prog 13 (Tryd.f85.body.getD .skip)=some c_spec_l38Odd:=by kernel_rfl
set_option maxRecDepth 20000 in
theorem draw_odd (l:List UInt8) (hl:l.length≤2000) (p id:Nat) (hp:p<900000000) (σ:Store) (hid:σ[id]?=some (.box (rdV l p))):ACalls Tryd.prog 85 [.ptr id 0] σ fun r σ'=>∃ w:List UInt8,r=.t (.str w)∧w.length≤201∧σ'=σ.set id (.box (rdV l (p+2))):=by
 refine acalls_of Tryd.func85 (by decide +kernel) (code:=Tryd.f85.body.getD .skip) (n:=13) (c:=c_spec_l38Odd) (rs:=[(.tmp 2)]) rfl rfl k_spec_l38Odd (by kernel_rfl) (by simp) (fun hσ=>?_)
 have hidl:=(List.getElem?_eq_some_iff.1 hid).1
 have s1:∀ o,(σ.set id o)[id]?=some o:=fun o=>List.getElem?_set_self hidl
 have bl:∀ o,σ.length≤(σ.set id o).length:=fun o=>by rw [List.length_set]; exact Nat.le_refl _
 simp -implicitDefEqProofs only [c_spec_l38Odd,zZ,zA,zB,zC,zD,zE,zG,zH,zI,zJ,zK,if_true,if_false,reduceCtorEq,zW,zX,zY,za,zb]
 refine call_by (by rw [List.append_nil]; exact pick_n l hl p 2 id (by omega) (by omega) (by omega) _ hid) ?_
 rintro r σ' ⟨x,rfl,hx,rfl⟩
 have w1:IntKind.i64.wrap (20+((x:Nat):Int))=((20+x:Nat):Int):=by rw [IntWalk.i64_in _ (by omega)]; omega
 simp -implicitDefEqProofs only [w1,zZ,zA,zB,zC,zD,zE,zG,zH,zI,zJ,zK,if_true,if_false,reduceCtorEq,zW,zX,zY,za,zb]
 refine call_by (by rw [List.append_nil]; exact many_n [110] (20+x) (by simp) (by omega) _) ?_
 rintro r σ' ⟨⟨o,rfl,ho⟩,rfl⟩
 have ho2:decide (o.length≤201)=true:=by simp at ho ⊢; omega
 simp -implicitDefEqProofs only [zZ,zA,zB,zC,zD,zE,zG,zH,zI,zJ,zK,if_true,if_false,reduceCtorEq,zW,zX,zY,za,zb]
 refine call_by (by rw [List.append_nil]; exact many_n [116] 201 (by simp) (by omega) _) ?_
 rintro r σ' ⟨⟨o',rfl,ho'⟩,rfl⟩
 have ho3:decide (o'.length≤201)=true:=by simp at ho' ⊢; omega
 have c1:0<12∧1<12∧2<12∧3<12∧4<12∧5<12∧6<12∧7<12∧8<12∧9<12∧10<12∧11<12:=by omega
 simp -implicitDefEqProofs only [c1,List.replicate,zZ,zA,zB,zC,zD,zE,zG,zH,zI,zJ,zK,if_true,if_false,reduceCtorEq,zW,zX,zY,za,zb]
 refine lit_rows ?_
 simp -implicitDefEqProofs only [zZ,zA,zB,zC,zD,zE,zG,zH,zI,zJ,zK,if_true,if_false,reduceCtorEq,zW,zX,zY,za,zb]
 refine call_by (by rw [List.append_nil]; exact pick_n l hl (p+1) 12 id (by omega) (by omega) (by omega) _ (s1 _)) ?_
 rintro r σ' ⟨y,rfl,hy,rfl⟩
 simp -implicitDefEqProofs only [zV,zd,set_same,zZ,zA,zB,zC,zD,zE,zG,zH,zI,zJ,zK,if_true,if_false,reduceCtorEq,zW,zX,zY,za,zb]
 refine pick_row (m:=201) (by simp only [List.all_cons,List.all_nil,strLe_c,ho2,ho3,Bool.and_true]; decide) (by simpa using hy) ?_
 intro w hw
 simp -implicitDefEqProofs only [zZ,zA,zB,zC,zD,zE,zG,zH,zI,zJ,zK,if_true,if_false,reduceCtorEq,zW,zX,zY,za,zb]
 exact fin_keep (bl _) ⟨w,rfl,hw,rfl⟩
def c_spec_l38Word:C:=(.seq (.ops [⟨some 4,none,.mv (.c (.t (.str [])))⟩]) (.seq (.seq (.ops [⟨some 5,none,.mv (.t 1)⟩]) (.block 0 (.seq (.ops [⟨some 7,none,.bin .eql (.t 5) (.c (.t (.int .i64 1)))⟩,⟨some 6,none,.mv (.t 7)⟩]) (.cond (.t 6) (.seq (.ops [⟨some 8,none,.lit none 1 6 [.t (.str [])] [⟨0,.c (.t (.str [48]))⟩,⟨1,.c (.t (.str [49]))⟩,⟨2,.c (.t (.str [50]))⟩,⟨3,.c (.t (.str [55]))⟩,⟨4,.c (.t (.str [49,48,48]))⟩,⟨5,.c (.t (.str [49,48,48,48,48,48,48]))⟩]⟩,⟨some 9,none,.mv (.t 0)⟩,⟨some 10,none,.call (.c (.fn (.func 47) [])) [.t 9,.c (.t (.int .i64 6))]⟩,⟨some 11,none,.indexAddr 1 (.t 8) (.t 10)⟩,⟨some 12,none,.load none (.t 11)⟩,⟨some 4,none,.mv (.t 12)⟩]) .ret) (.seq (.ops [⟨some 14,none,.bin .eql (.t 5) (.c (.t (.int .i64 2)))⟩,⟨some 13,none,.mv (.t 14)⟩]) (.cond (.t 13) (.seq (.ops [⟨some 15,none,.lit none 1 5 [.t (.str [])] [⟨0,.c (.t (.str [48]))⟩,⟨1,.c (.t (.str [45,49]))⟩,⟨2,.c (.t (.str [53]))⟩,⟨3,.c (.t (.str [45,57]))⟩,⟨4,.c (.t (.str [45,49,48,48,48,48,48,48]))⟩]⟩,⟨some 16,none,.mv (.t 0)⟩,⟨some 17,none,.call (.c (.fn (.func 47) [])) [.t 16,.c (.t (.int .i64 5))]⟩,⟨some 18,none,.indexAddr 1 (.t 15) (.t 17)⟩,⟨some 19,none,.load none (.t 18)⟩,⟨some 4,none,.mv (.t 19)⟩]) .ret) (.seq (.ops [⟨some 21,none,.bin .eql (.t 5) (.c (.t (.int .i64 3)))⟩,⟨some 20,none,.mv (.t 21)⟩]) (.cond (.t 20) (.seq (.ops [⟨some 22,none,.lit none 1 4 [.t (.str [])] [⟨0,.c (.t (.str [99,111,114,101]))⟩,⟨1,.c (.t (.str [122]))⟩,⟨2,.c (.t (.str [101,97,115,116]))⟩,⟨3,.c (.t (.str [97,45,49]))⟩]⟩,⟨some 23,none,.mv (.t 0)⟩,⟨some 24,none,.call (.c (.fn (.func 47) [])) [.t 23,.c (.t (.int .i64 4))]⟩,⟨some 25,none,.indexAddr 1 (.t 22) (.t 24)⟩,⟨some 26,none,.load none (.t 25)⟩,⟨some 4,none,.mv (.t 26)⟩]) .ret) (.seq (.ops [⟨some 28,none,.bin .eql (.t 5) (.c (.t (.int .i64 5)))⟩,⟨some 27,none,.mv (.t 28)⟩]) (.cond (.t 27) (.seq (.ops [⟨some 29,none,.lit none 1 2 [.t (.str [])] [⟨0,.c (.t (.str [121,101,115]))⟩,⟨1,.c (.t (.str [110,111]))⟩]⟩,⟨some 30,none,.mv (.t 0)⟩,⟨some 31,none,.call (.c (.fn (.func 47) [])) [.t 30,.c (.t (.int .i64 2))]⟩,⟨some 32,none,.indexAddr 1 (.t 29) (.t 31)⟩,⟨some 33,none,.load none (.t 32)⟩,⟨some 4,none,.mv (.t 33)⟩]) .ret) (.seq (.ops [⟨some 35,none,.bin .eql (.t 5) (.c (.t (.int .i64 6)))⟩,⟨some 34,none,.mv (.t 35)⟩]) (.cond (.t 34) (.seq (.ops [⟨some 36,none,.lit none 1 3 [.t (.str [])] [⟨0,.c (.t (.str [110,111,110,101]))⟩,⟨1,.c (.t (.str [98,101,114,116,104]))⟩,⟨2,.c (.t (.str [122,111,110,101]))⟩]⟩,⟨some 37,none,.mv (.t 0)⟩,⟨some 38,none,.call (.c (.fn (.func 47) [])) [.t 37,.c (.t (.int .i64 3))]⟩,⟨some 39,none,.indexAddr 1 (.t 36) (.t 38)⟩,⟨some 40,none,.load none (.t 39)⟩,⟨some 4,none,.mv (.t 40)⟩]) .ret) .skip)))))))))))) (.seq (.ops [⟨some 41,none,.mv (.t 0)⟩,⟨some 42,none,.call (.c (.fn (.func 122) [])) [.t 41]⟩,⟨some 4,none,.mv (.t 42)⟩]) .ret)))
theorem k_spec_l38Word:comp Tryd.prog 43 (Tryd.f112.body.getD .skip)=some c_spec_l38Word:=by kernel_rfl
end Go.Proofs.YtnnnemgbgilfaaaDoor.W
end
section
open Go Go.Ab
set_option maxHeartbeats 2000000
namespace Go.Proofs.YtnnnemgbgilfaaaDoor.W
structure DW (σ:Store) (l:List UInt8) (id:Nat) (q:Nat) (ws:List (List UInt8)) (v:V) (is:List Nat) (b:Nat) (s:Store):Prop where
 le:b≤s.length
 rd:s[id]?=some (.box (rdV l q))
 kp:Kb [id] σ s
 own:Own s (tStrs ws) v is
 nr:noRows v
 wi:Wi is b s.length
 sm:∀ w∈ws,w.length≤201
theorem DW.one {σ s:Store} {l:List UInt8} {id q b:Nat} {ws:List (List UInt8)} {v:V} {is:List Nat} (h:DW σ l id q ws v is b s):Go.Ab.one v=true:=h.own.one
theorem Kb.trans {is:List Nat} {a b c:Store} (h:Kb is a b) (hl:a.length≤b.length) (k:Kb is b c):Kb is a c:=fun j hj hm=>(k j (by omega) hm).trans (h j hj hm)
theorem Kb.setId {s:Store} {id:Nat} {o:Go.Ab.Obj}:Kb [id] s (s.set id o):=fun j hj hm=>by
 rw [List.getElem?_set_ne (by simpa using fun e:id=j=>hm (by simp [e]))]
structure Gd where
 i:Nat
 q:Nat
 ws:List (List UInt8)
 v:V
 is:List Nat
 s:Store
def c_spec_l38Line:C:=(.seq (.ops [⟨some 4,none,.new [.t (.str []),.nils]⟩]) (.seq (.ops [⟨some 9,none,.mv (.t 1)⟩,⟨some 10,none,.call (.c (.fn (.func 33) [])) [.t 9]⟩,⟨some 5,none,.mv (.t 10)⟩]) (.seq (.ops [⟨some 11,none,.mv (.t 5)⟩,⟨some 12,none,.mv (.t 0)⟩,⟨some 13,none,.mv (.t 5)⟩,⟨some 14,none,.len false (.t 13)⟩,⟨some 15,none,.call (.c (.fn (.func 47) [])) [.t 12,.t 14]⟩,⟨some 16,none,.indexAddr 4 (.t 11) (.t 15)⟩,⟨some 17,none,.load (some 4) (.t 16)⟩,⟨some 6,none,.new [.t (.str []),.nils,.t (.bool false),.nils]⟩,⟨none,none,.store 4 (.t 6) (.t 17)⟩]) (.seq (.ops [⟨some 18,none,.fieldAddr 0 (.t 6)⟩,⟨some 19,none,.load none (.t 18)⟩,⟨some 20,none,.build [.t (.str []),.nils] [⟨0,⟨1,.t 19⟩⟩]⟩,⟨some 7,none,.new [.t (.str []),.nils]⟩,⟨none,none,.store 2 (.t 7) (.t 20)⟩]) (.seq (.seq (.ops [⟨some 21,none,.fieldAddr 2 (.t 6)⟩,⟨some 22,none,.load none (.t 21)⟩,⟨some 23,none,.un .not (.t 22)⟩,⟨some 24,none,.mv (.t 23)⟩,⟨some 25,some ⟨24,true⟩,.mv (.t 0)⟩,⟨some 26,some ⟨24,true⟩,.call (.c (.fn (.func 47) [])) [.t 25,.c (.t (.int .i64 4))]⟩,⟨some 27,some ⟨24,true⟩,.bin .eql (.t 26) (.c (.t (.int .i64 0)))⟩,⟨some 28,none,.pick (.t 24) (.t 27) (.c (.t (.bool false)))⟩]) (.cond (.t 28) (.seq (.ops [⟨some 29,none,.fieldAddr 1 (.t 7)⟩,⟨some 30,none,.load none (.t 29)⟩,⟨some 31,none,.fieldAddr 3 (.t 6)⟩,⟨some 32,none,.load none (.t 31)⟩,⟨some 33,none,.append 1 16 (.t 30) (.t 32)⟩,⟨some 34,none,.fieldAddr 1 (.t 7)⟩,⟨none,none,.store 1 (.t 34) (.t 33)⟩]) (.seq (.ops [⟨some 35,none,.load (some 2) (.t 7)⟩,⟨none,none,.store 2 (.t 4) (.t 35)⟩]) .ret)) .skip)) (.seq (.seq (.ops [⟨some 8,none,.mv (.c (.t (.int .i64 0)))⟩]) (.block 0 (.loop (.seq (.seq (.ops [⟨some 36,none,.mv (.t 8)⟩,⟨some 37,none,.fieldAddr 1 (.t 6)⟩,⟨some 38,none,.load none (.t 37)⟩,⟨some 39,none,.len false (.t 38)⟩,⟨some 40,none,.bin .lss (.t 36) (.t 39)⟩]) (.cond (.t 40) .skip (.exit 0))) (.seq (.block 1 (.drawn [.mk 0 false ⟨some 43,none,.fieldAddr 1 (.t 7)⟩ [],.mk 1 false ⟨some 44,none,.load none (.t 43)⟩ [],.mk 2 false ⟨some 45,none,.mv (.t 0)⟩ [],.mk 3 false ⟨some 46,none,.fieldAddr 1 (.t 6)⟩ [],.mk 4 false ⟨some 47,none,.load none (.t 46)⟩ [],.mk 5 false ⟨some 48,none,.mv (.t 8)⟩ [],.mk 6 false ⟨some 49,none,.indexAddr 1 (.t 47) (.t 48)⟩ [],.mk 7 false ⟨some 50,none,.load none (.t 49)⟩ [],.mk 8 true ⟨some 51,none,.call (.c (.fn (.func 112) [])) [.t 45,.t 50]⟩ [⟨some 44,none,.load none (.t 43)⟩],.mk 9 false ⟨some 52,none,.lit (some false) 1 1 [.t (.str [])] [⟨0,.t 51⟩]⟩ [],.mk 10 false ⟨some 53,none,.append 1 16 (.t 44) (.t 52)⟩ [],.mk 11 false ⟨some 54,none,.fieldAddr 1 (.t 7)⟩ [],.mk 12 false ⟨none,none,.store 1 (.t 54) (.t 53)⟩ []])) (.ops [⟨some 41,none,.mv (.t 8)⟩,⟨some 42,none,.bin .add (.t 41) (.c (.t (.int .i64 1)))⟩,⟨some 8,none,.mv (.t 42)⟩])))))) (.seq (.ops [⟨some 55,none,.load (some 2) (.t 7)⟩,⟨none,none,.store 2 (.t 4) (.t 55)⟩]) .ret)))))))
theorem k_spec_l38Line:comp Tryd.prog 56 (Tryd.f98.body.getD .skip)=some c_spec_l38Line:=by kernel_rfl
end Go.Proofs.YtnnnemgbgilfaaaDoor.W
end
