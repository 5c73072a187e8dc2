/- FnExactSheetGet: what the law's code does: it returns true. Conditions: none. -/
import Derived.Test.YtkppdeobinefbaaDoorSheetGet2
import Derived.Test.YtkppdeobinefbaaDoorMarkSheetD
import Derived.Test.YtkppdeobinefbaaDoorAb4
set_option linter.unusedSimpArgs false
set_option linter.unusedVariables false
set_option linter.defProp false
open Go Go.Ab
set_option maxHeartbeats 4000000
namespace Go.Proofs.YtkppdeobinefbaaDoor.LSheetGet
open Go.Proofs.YtkppdeobinefbaaDoor.W
def c_laws_FnExactSheetGet : C := (.seq (.ops [⟨(some 4), none, (.box (.t 0))⟩, ⟨(some 8), none, (.mv (.c (.t (.bool false))))⟩]) (.seq (.seq (.ops [⟨(some 20), none, (.mv (.t 1))⟩, ⟨(some 21), none, (.len true (.t 20))⟩, ⟨(some 22), none, (.bin .gtr (.t 21) (.c (.t (.int .i64 1048576))))⟩]) (.cond (.t 22) (.seq (.ops [⟨(some 8), none, (.mv (.c (.t (.bool true))))⟩]) .ret) .skip)) (.seq (.seq (.ops [⟨(some 23), none, (.mv (.t 2))⟩, ⟨(some 24), none, (.len true (.t 23))⟩, ⟨(some 25), none, (.bin .gtr (.t 24) (.c (.t (.int .i64 1048576))))⟩]) (.cond (.t 25) (.seq (.ops [⟨(some 8), none, (.mv (.c (.t (.bool true))))⟩]) .ret) .skip)) (.seq (.seq (.ops [⟨(some 26), none, (.mv (.t 3))⟩, ⟨(some 27), none, (.len true (.t 26))⟩, ⟨(some 28), none, (.bin .gtr (.t 27) (.c (.t (.int .i64 1048576))))⟩]) (.cond (.t 28) (.seq (.ops [⟨(some 8), none, (.mv (.c (.t (.bool true))))⟩]) .ret) .skip)) (.seq (.ops [⟨(some 9), none, (.mv (.c (.t (.int .i64 1048576))))⟩]) (.seq (.ops [⟨(some 29), none, (.load (some 1) (.t 4))⟩, ⟨(some 30), none, (.mv (.t 9))⟩, ⟨(some 31), none, (.call (.c (.fn (.func 25) [])) [(.t 29), (.t 30)])⟩, ⟨(some 9), none, (.mv (.t 31))⟩]) (.seq (.seq (.ops [⟨(some 32), none, (.mv (.t 9))⟩, ⟨(some 33), none, (.bin .lss (.t 32) (.c (.t (.int .i64 0))))⟩]) (.cond (.t 33) (.seq (.ops [⟨(some 8), none, (.mv (.c (.t (.bool true))))⟩]) .ret) .skip)) (.seq (.ops [⟨(some 35), none, (.load (some 1) (.t 4))⟩, ⟨(some 36), none, (.call (.c (.fn (.func 27) [])) [(.t 35)])⟩, ⟨(some 37), none, (.mv (.t 1))⟩, ⟨(some 38), none, (.mv (.t 2))⟩, ⟨(some 39), none, (.mv (.t 3))⟩, ⟨(some 40), none, (.call (.c (.fn (.func 32) [])) [(.t 36), (.t 37), (.t 38), (.t 39)])⟩, ⟨(some 34), none, (.mv (.t 40))⟩, ⟨(some 41), none, (.extract (.t 34) 0)⟩, ⟨(some 42), none, (.extract (.t 34) 1)⟩, ⟨(some 10), none, (.mv (.t 41))⟩, ⟨(some 11), none, (.mv (.t 42))⟩]) (.seq (.ops [⟨(some 43), none, (.load (some 1) (.t 4))⟩, ⟨(some 44), none, (.call (.c (.fn (.func 27) [])) [(.t 43)])⟩, ⟨(some 12), none, (.new [.nils])⟩, ⟨none, none, (.store 1 (.t 12) (.t 44))⟩]) (.seq (.ops [⟨(some 46), none, (.load (some 1) (.t 12))⟩, ⟨(some 47), none, (.mv (.t 1))⟩, ⟨(some 48), none, (.mv (.t 2))⟩, ⟨(some 49), none, (.mv (.t 3))⟩, ⟨(some 50), none, (.call (.c (.fn (.func 33) [])) [(.t 46), (.t 47), (.t 48), (.t 49)])⟩, ⟨(some 45), none, (.mv (.t 50))⟩, ⟨(some 51), none, (.extract (.t 45) 0)⟩, ⟨(some 52), none, (.extract (.t 45) 1)⟩, ⟨(some 13), none, (.mv (.t 51))⟩, ⟨(some 14), none, (.mv (.t 52))⟩]) (.seq (.seq (.ops [⟨(some 53), none, (.mv (.t 13))⟩, ⟨(some 54), none, (.mv (.t 10))⟩, ⟨(some 55), none, (.call (.c (.fn (.func 34) [])) [(.t 53), (.t 54)])⟩, ⟨(some 56), none, (.un .not (.t 55))⟩, ⟨(some 57), none, (.mv (.t 56))⟩, ⟨(some 58), (some ⟨57, false⟩), (.mv (.t 14))⟩, ⟨(some 59), (some ⟨57, false⟩), (.mv (.t 11))⟩, ⟨(some 60), (some ⟨57, false⟩), (.eqB true (.t 58) (.t 59))⟩, ⟨(some 61), none, (.pick (.t 57) (.c (.t (.bool true))) (.t 60))⟩]) (.cond (.t 61) (.seq (.ops [⟨(some 8), none, (.mv (.c (.t (.bool false))))⟩]) .ret) .skip)) (.seq (.seq (.drawn [(.mk 0 false ⟨(some 62), none, (.load (some 1) (.t 12))⟩), (.mk 1 false ⟨(some 63), none, (.load (some 1) (.t 4))⟩), (.mk 2 true ⟨(some 64), none, (.call (.c (.fn (.func 27) [])) [(.t 63)])⟩), (.mk 3 false ⟨(some 65), none, (.call (.c (.fn (.func 29) [])) [(.t 62), (.t 64)])⟩), (.mk 4 false ⟨(some 66), none, (.un .not (.t 65))⟩)]) (.cond (.t 66) (.seq (.ops [⟨(some 8), none, (.mv (.c (.t (.bool false))))⟩]) .ret) .skip)) (.seq (.ops [⟨(some 15), none, (.mv (.c (.t (.int .i64 1))))⟩]) (.seq (.ops [⟨(some 67), none, (.load (some 1) (.t 12))⟩, ⟨(some 68), none, (.mv (.t 15))⟩, ⟨(some 69), none, (.call (.c (.fn (.func 35) [])) [(.t 67), (.t 68)])⟩, ⟨(some 15), none, (.mv (.t 69))⟩]) (.seq (.seq (.ops [⟨(some 70), none, (.mv (.t 15))⟩, ⟨(some 71), none, (.bin .lss (.t 70) (.c (.t (.int .i64 0))))⟩, ⟨(some 72), none, (.mv (.t 71))⟩, ⟨(some 73), (some ⟨72, false⟩), (.mv (.t 13))⟩, ⟨(some 74), (some ⟨72, false⟩), (.mv (.t 10))⟩, ⟨(some 75), (some ⟨72, false⟩), (.call (.c (.fn (.func 34) [])) [(.t 73), (.t 74)])⟩, ⟨(some 76), (some ⟨72, false⟩), (.un .not (.t 75))⟩, ⟨(some 77), none, (.pick (.t 72) (.c (.t (.bool true))) (.t 76))⟩, ⟨(some 78), none, (.mv (.t 77))⟩, ⟨(some 79), (some ⟨78, false⟩), (.mv (.t 14))⟩, ⟨(some 80), (some ⟨78, false⟩), (.mv (.t 11))⟩, ⟨(some 81), (some ⟨78, false⟩), (.eqB true (.t 79) (.t 80))⟩, ⟨(some 82), none, (.pick (.t 78) (.c (.t (.bool true))) (.t 81))⟩]) (.cond (.t 82) (.seq (.ops [⟨(some 8), none, (.mv (.c (.t (.bool false))))⟩]) .ret) .skip)) (.seq (.ops [⟨(some 16), none, (.mv (.c (.t (.int .i64 1))))⟩]) (.seq (.ops [⟨(some 83), none, (.mv (.t 13))⟩, ⟨(some 84), none, (.mv (.t 16))⟩, ⟨(some 85), none, (.call (.c (.fn (.func 36) [])) [(.t 83), (.t 84)])⟩, ⟨(some 16), none, (.mv (.t 85))⟩]) (.seq (.ops [⟨(some 17), none, (.mv (.c (.t (.int .i64 1))))⟩]) (.seq (.ops [⟨(some 86), none, (.mv (.t 13))⟩, ⟨(some 87), none, (.mv (.t 17))⟩, ⟨(some 88), none, (.call (.c (.fn (.func 37) [])) [(.t 86), (.t 87)])⟩, ⟨(some 17), none, (.mv (.t 88))⟩]) (.seq (.seq (.ops [⟨(some 89), none, (.mv (.t 17))⟩, ⟨(some 90), none, (.bin .lss (.t 89) (.c (.t (.int .i64 0))))⟩]) (.cond (.t 90) (.seq (.ops [⟨(some 8), none, (.mv (.c (.t (.bool false))))⟩]) .ret) .skip)) (.seq (.seq (.ops [⟨(some 91), none, (.mv (.t 17))⟩, ⟨(some 92), none, (.mv (.t 16))⟩, ⟨(some 93), none, (.bin .neq (.t 91) (.t 92))⟩]) (.cond (.t 93) (.seq (.ops [⟨(some 8), none, (.mv (.c (.t (.bool false))))⟩]) .ret) .skip)) (.seq (.ops [⟨(some 95), none, (.load (some 1) (.t 4))⟩, ⟨(some 96), none, (.call (.c (.fn (.func 27) [])) [(.t 95)])⟩, ⟨(some 97), none, (.mv (.t 1))⟩, ⟨(some 98), none, (.mv (.t 2))⟩, ⟨(some 99), none, (.mv (.t 3))⟩, ⟨(some 100), none, (.call (.c (.fn (.func 33) [])) [(.t 96), (.t 97), (.t 98), (.t 99)])⟩, ⟨(some 94), none, (.mv (.t 100))⟩, ⟨(some 101), none, (.extract (.t 94) 0)⟩, ⟨(some 102), none, (.extract (.t 94) 1)⟩, ⟨(some 18), none, (.mv (.t 101))⟩, ⟨(some 19), none, (.mv (.t 102))⟩]) (.seq (.seq (.ops [⟨(some 103), none, (.mv (.t 18))⟩, ⟨(some 104), none, (.mv (.t 10))⟩, ⟨(some 105), none, (.call (.c (.fn (.func 34) [])) [(.t 103), (.t 104)])⟩, ⟨(some 106), none, (.un .not (.t 105))⟩, ⟨(some 107), none, (.mv (.t 106))⟩, ⟨(some 108), (some ⟨107, false⟩), (.mv (.t 19))⟩, ⟨(some 109), (some ⟨107, false⟩), (.mv (.t 11))⟩, ⟨(some 110), (some ⟨107, false⟩), (.eqB true (.t 108) (.t 109))⟩, ⟨(some 111), none, (.pick (.t 107) (.c (.t (.bool true))) (.t 110))⟩]) (.cond (.t 111) (.seq (.ops [⟨(some 8), none, (.mv (.c (.t (.bool false))))⟩]) .ret) .skip)) (.seq (.ops [⟨(some 17), none, (.mv (.c (.t (.int .i64 1))))⟩]) (.seq (.ops [⟨(some 112), none, (.mv (.t 13))⟩, ⟨(some 113), none, (.mv (.t 17))⟩, ⟨(some 114), none, (.call (.c (.fn (.func 37) [])) [(.t 112), (.t 113)])⟩, ⟨(some 17), none, (.mv (.t 114))⟩]) (.seq (.seq (.ops [⟨(some 115), none, (.mv (.t 17))⟩, ⟨(some 116), none, (.bin .lss (.t 115) (.c (.t (.int .i64 0))))⟩]) (.cond (.t 116) (.seq (.ops [⟨(some 8), none, (.mv (.c (.t (.bool false))))⟩]) .ret) .skip)) (.seq (.seq (.ops [⟨(some 117), none, (.mv (.t 17))⟩, ⟨(some 118), none, (.mv (.t 16))⟩, ⟨(some 119), none, (.bin .neq (.t 117) (.t 118))⟩]) (.cond (.t 119) (.seq (.ops [⟨(some 8), none, (.mv (.c (.t (.bool false))))⟩]) .ret) .skip)) (.seq (.ops [⟨(some 8), none, (.mv (.c (.t (.bool true))))⟩]) .ret))))))))))))))))))))))))))))
theorem k_laws_FnExactSheetGet : comp Tryd.prog 120 (Tryd.f8.body.getD .skip) = some c_laws_FnExactSheetGet := by kernel_rfl

theorem lawSheetGet (a0 : Sheet) (a1 : List UInt8) (a2 : List UInt8) (a3 : List UInt8) (h0 : T.isL shSheet a0.ts) (q0 : T.sizeL a0.ts ≤ 1048576 → a0.Ok) (h1 : a1.length ≤ maxLen) (h2 : a2.length ≤ maxLen) (h3 : a3.length ≤ maxLen) (σ : Store) : ACalls Tryd.prog 8 [.agg a0.vs, .t (.str a1), .t (.str a2), .t (.str a3)] σ fun r _ => r = .t (.bool true) := by
  refine acalls_of Tryd.func8 (by decide +kernel) (code := Tryd.f8.body.getD .skip) (n := 120) (c := c_laws_FnExactSheetGet) (rs := [(.tmp 8)]) rfl rfl k_laws_FnExactSheetGet (by kernel_rfl) (by simp) (fun hσ => ?_)
  try simp only [maxLen] at *
  have fin : ∀ {τ : Store}, retV σ.length (fun r _ => r = .t (.bool true)) (σ ++ τ) (some [.t (.bool true)]) := ret_same rfl hσ rfl rfl
  have fin0 : retV σ.length (fun r _ => r = .t (.bool true)) σ (some [.t (.bool true)]) := ret_same0 rfl rfl
  simp -implicitDefEqProofs only [c_laws_FnExactSheetGet, Sheet.vs, S0, S1, S2, S3, S4, S5, S6, S7, S8, S9, S10, S11, S12, S13, S14, S15, S16, S17, opv, opvs, eget, env0, setD, lenStr, lenSl, isNilP, isNilS, putAt, if_true, if_false, reduceCtorEq, Nat.reduceLeDiff, Nat.reduceEqDiff, Nat.reduceSub, Nat.reduceMul, Nat.reduceAdd]
  refine cond_split (fun g1 => ?_) (fun g1 => ?_)
  · simp -implicitDefEqProofs only [S0, S1, S2, S3, S4, S5, S6, S7, S8, S9, S10, S11, S12, S13, S14, S15, S16, S17, opv, opvs, eget, env0, setD, lenStr, lenSl, isNilP, isNilS, putAt, if_true, if_false, reduceCtorEq, Nat.reduceLeDiff, Nat.reduceEqDiff, Nat.reduceSub, Nat.reduceMul, Nat.reduceAdd]
    first | exact fin | exact fin0
  replace g1 : a1.length ≤ 1048576 := by simp at g1; omega
  simp -implicitDefEqProofs only [nat_neg, List.append_nil, Sheet.vs, ne_self, beq_self_eq_true, S0, S1, S2, S3, S4, S5, S6, S7, S8, S9, S10, S11, S12, S13, S14, S15, S16, S17, opv, opvs, eget, env0, setD, lenStr, lenSl, isNilP, isNilS, putAt, if_true, if_false, reduceCtorEq, Nat.reduceLeDiff, Nat.reduceEqDiff, Nat.reduceSub, Nat.reduceMul, Nat.reduceAdd]
  refine cond_split (fun g2 => ?_) (fun g2 => ?_)
  · simp -implicitDefEqProofs only [S0, S1, S2, S3, S4, S5, S6, S7, S8, S9, S10, S11, S12, S13, S14, S15, S16, S17, opv, opvs, eget, env0, setD, lenStr, lenSl, isNilP, isNilS, putAt, if_true, if_false, reduceCtorEq, Nat.reduceLeDiff, Nat.reduceEqDiff, Nat.reduceSub, Nat.reduceMul, Nat.reduceAdd]
    first | exact fin | exact fin0
  replace g2 : a2.length ≤ 1048576 := by simp at g2; omega
  simp -implicitDefEqProofs only [nat_neg, List.append_nil, Sheet.vs, ne_self, beq_self_eq_true, S0, S1, S2, S3, S4, S5, S6, S7, S8, S9, S10, S11, S12, S13, S14, S15, S16, S17, opv, opvs, eget, env0, setD, lenStr, lenSl, isNilP, isNilS, putAt, if_true, if_false, reduceCtorEq, Nat.reduceLeDiff, Nat.reduceEqDiff, Nat.reduceSub, Nat.reduceMul, Nat.reduceAdd]
  refine cond_split (fun g3 => ?_) (fun g3 => ?_)
  · simp -implicitDefEqProofs only [S0, S1, S2, S3, S4, S5, S6, S7, S8, S9, S10, S11, S12, S13, S14, S15, S16, S17, opv, opvs, eget, env0, setD, lenStr, lenSl, isNilP, isNilS, putAt, if_true, if_false, reduceCtorEq, Nat.reduceLeDiff, Nat.reduceEqDiff, Nat.reduceSub, Nat.reduceMul, Nat.reduceAdd]
    first | exact fin | exact fin0
  replace g3 : a3.length ≤ 1048576 := by simp at g3; omega
  simp -implicitDefEqProofs only [nat_neg, List.append_nil, Sheet.vs, ne_self, beq_self_eq_true, S0, S1, S2, S3, S4, S5, S6, S7, S8, S9, S10, S11, S12, S13, S14, S15, S16, S17, opv, opvs, eget, env0, setD, lenStr, lenSl, isNilP, isNilS, putAt, if_true, if_false, reduceCtorEq, Nat.reduceLeDiff, Nat.reduceEqDiff, Nat.reduceSub, Nat.reduceMul, Nat.reduceAdd]
  refine call_by (by rw [List.append_nil]; exact szSheet a0.ts 1048576 _ h0 (by omega) (by omega)) ?_
  rintro r σ' ⟨⟨m1, rfl, hm1, hs1⟩, rfl⟩
  simp -implicitDefEqProofs only [nat_neg, List.append_nil, Sheet.vs, ne_self, beq_self_eq_true, S0, S1, S2, S3, S4, S5, S6, S7, S8, S9, S10, S11, S12, S13, S14, S15, S16, S17, opv, opvs, eget, env0, setD, lenStr, lenSl, isNilP, isNilS, putAt, if_true, if_false, reduceCtorEq, Nat.reduceLeDiff, Nat.reduceEqDiff, Nat.reduceSub, Nat.reduceMul, Nat.reduceAdd]
  refine cond_split (fun h => ?_) (fun h => ?_)
  · simp -implicitDefEqProofs only [S0, S1, S2, S3, S4, S5, S6, S7, S8, S9, S10, S11, S12, S13, S14, S15, S16, S17, opv, opvs, eget, env0, setD, lenStr, lenSl, isNilP, isNilS, putAt, if_true, if_false, reduceCtorEq, Nat.reduceLeDiff, Nat.reduceEqDiff, Nat.reduceSub, Nat.reduceMul, Nat.reduceAdd]
    first | exact fin | exact fin0
  simp only [decide_eq_false_iff_not, Int.not_lt] at h
  replace hs1 := hs1 h
  simp -implicitDefEqProofs only [nat_neg, List.append_nil, Sheet.vs, ne_self, beq_self_eq_true, S0, S1, S2, S3, S4, S5, S6, S7, S8, S9, S10, S11, S12, S13, S14, S15, S16, S17, opv, opvs, eget, env0, setD, lenStr, lenSl, isNilP, isNilS, putAt, if_true, if_false, reduceCtorEq, Nat.reduceLeDiff, Nat.reduceEqDiff, Nat.reduceSub, Nat.reduceMul, Nat.reduceAdd]
  have o0 := q0 (by omega)
  have o1 : a1.length ≤ 1048576 := by omega
  have o2 : a2.length ≤ 1048576 := by omega
  have o3 : a3.length ≤ 1048576 := by omega
  obtain ⟨s1, es1⟩ : ∃ s, s = σ ++ [Go.Ab.Obj.box a0.vs] := ⟨_, rfl⟩
  have kp1 : Kp σ s1 := by rw [es1]; exact Kp.app _ _
  have ln1 : s1.length = σ.length + 1 := by rw [es1]; simp
  have e1 : s1[σ.length]? = some (.box a0.vs) := by rw [es1]; simp
  simp only [Sheet.vs] at es1 e1
  rw [← es1]
  obtain ⟨hT, hzt⟩ := res_SheetGet a0 h0 (by omega) o0 a1 o1 a2 o2 a3 o3
  have Sp := fun σ => specF_SheetGet a0 o0 a1 o1 a2 o2 a3 o3 σ
  have Ip := fun σ => implO_SheetGet a0 o0 a1 o1 a2 o2 a3 o3 σ
  generalize (resT_SheetGet a0 a1 a2 a3) = t at hT hzt Sp Ip
  generalize (resB_SheetGet a0 a1 a2 a3) = b at Sp Ip
  have hmt : (T.mk markTxt 1 t).2 < 4611686018427387904 := by
    have := mk_ub (mt := markTxt) (t := t) (k := 1) (c := (.sl 2 shSheetLine)) (by decide) hT
    omega
  have IpF := fun σ => frz_pairOf (Ip σ)
  have toF0 : ∀ σ, ACalls Tryd.prog 27 [.agg a0.vs] σ fun r σ' => r = .agg a0.vs ∧ σ' = σ := fun σ => acalls_frzTL (toSheet a0.ts σ h0 (by omega))
  try simp -implicitDefEqProofs only [nat_neg, List.append_nil, Sheet.vs, e1, ne_self, beq_self_eq_true, S0, S1, S2, S3, S4, S5, S6, S7, S8, S9, S10, S11, S12, S13, S14, S15, S16, S17, opv, opvs, eget, env0, setD, lenStr, lenSl, isNilP, isNilS, putAt, if_true, if_false, reduceCtorEq, Nat.reduceLeDiff, Nat.reduceEqDiff, Nat.reduceSub, Nat.reduceMul, Nat.reduceAdd]
  refine call_pure (toF0 _) ?_
  simp -implicitDefEqProofs only [nat_neg, List.append_nil, Sheet.vs, e1, ne_self, beq_self_eq_true, S0, S1, S2, S3, S4, S5, S6, S7, S8, S9, S10, S11, S12, S13, S14, S15, S16, S17, opv, opvs, eget, env0, setD, lenStr, lenSl, isNilP, isNilS, putAt, if_true, if_false, reduceCtorEq, Nat.reduceLeDiff, Nat.reduceEqDiff, Nat.reduceSub, Nat.reduceMul, Nat.reduceAdd]
  refine call_pure (Sp _) ?_
  simp -implicitDefEqProofs only [nat_neg, List.append_nil, Sheet.vs, e1, ne_self, beq_self_eq_true, S0, S1, S2, S3, S4, S5, S6, S7, S8, S9, S10, S11, S12, S13, S14, S15, S16, S17, opv, opvs, eget, env0, setD, lenStr, lenSl, isNilP, isNilS, putAt, if_true, if_false, reduceCtorEq, Nat.reduceLeDiff, Nat.reduceEqDiff, Nat.reduceSub, Nat.reduceMul, Nat.reduceAdd]
  refine call_newL (toSheet a0.ts _ h0 (by omega)) ?_
  rintro u2 s2 j2 le2 k2 p2 w2
  replace e1 := k2.box e1
  have l2 : u2.length = 1 := by rw [p2.len]; first | rfl | exact lt
  have tk2 := take_all l2
  have on2 := p2.ones
  simp -implicitDefEqProofs only [nat_neg, List.append_nil, Sheet.vs, e1, l2, tk2, on2, ne_self, beq_self_eq_true, S0, S1, S2, S3, S4, S5, S6, S7, S8, S9, S10, S11, S12, S13, S14, S15, S16, S17, opv, opvs, eget, env0, setD, lenStr, lenSl, isNilP, isNilS, putAt, if_true, if_false, reduceCtorEq, Nat.reduceLeDiff, Nat.reduceEqDiff, Nat.reduceSub, Nat.reduceMul, Nat.reduceAdd]
  obtain ⟨s3, es3⟩ : ∃ s, s = s2 ++ [Go.Ab.Obj.box u2] := ⟨_, rfl⟩
  have kp3 : Kp s2 s3 := by rw [es3]; exact Kp.app _ _
  have ln3 : s3.length = s2.length + 1 := by rw [es3]; simp
  have e3 : s3[s2.length]? = some (.box u2) := by rw [es3]; simp
  rw [← es3]
  replace e1 := kp3.box e1
  replace p2 := kp3.ownL p2
  try simp -implicitDefEqProofs only [nat_neg, List.append_nil, Sheet.vs, e1, l2, tk2, on2, e3, ne_self, beq_self_eq_true, S0, S1, S2, S3, S4, S5, S6, S7, S8, S9, S10, S11, S12, S13, S14, S15, S16, S17, opv, opvs, eget, env0, setD, lenStr, lenSl, isNilP, isNilS, putAt, if_true, if_false, reduceCtorEq, Nat.reduceLeDiff, Nat.reduceEqDiff, Nat.reduceSub, Nat.reduceMul, Nat.reduceAdd]
  refine call_newP (acalls_toP Ip ⟨_, _, rfl, sees_agg p2 rfl (List.prefix_refl _), _, _, rfl, sees_one rfl, _, _, rfl, sees_one rfl, _, _, rfl, sees_one rfl, rfl⟩) ?_
  rintro u4 s4 j4 le4 k4 p4 w4
  replace e1 := k4.box e1
  replace e3 := k4.box e3
  replace p2 := k4.ownL p2
  have on4 := p4.one
  simp -implicitDefEqProofs only [nat_neg, List.append_nil, Sheet.vs, e1, l2, tk2, on2, e3, one_cells on4, on4, ne_self, beq_self_eq_true, S0, S1, S2, S3, S4, S5, S6, S7, S8, S9, S10, S11, S12, S13, S14, S15, S16, S17, opv, opvs, eget, env0, setD, lenStr, lenSl, isNilP, isNilS, putAt, if_true, if_false, reduceCtorEq, Nat.reduceLeDiff, Nat.reduceEqDiff, Nat.reduceSub, Nat.reduceMul, Nat.reduceAdd]
  refine call_bor (fun σ => eqSheetLineS t σ hT (by omega)) rfl ⟨_, _, rfl, sees_lst p4 rfl (List.prefix_refl _), _, _, rfl, seesA_t (by decide) hT, rfl⟩ ?_
  simp -implicitDefEqProofs only [nat_neg, List.append_nil, Sheet.vs, e1, l2, tk2, on2, e3, one_cells on4, on4, ne_self, beq_self_eq_true, S0, S1, S2, S3, S4, S5, S6, S7, S8, S9, S10, S11, S12, S13, S14, S15, S16, S17, opv, opvs, eget, env0, setD, lenStr, lenSl, isNilP, isNilS, putAt, if_true, if_false, reduceCtorEq, Nat.reduceLeDiff, Nat.reduceEqDiff, Nat.reduceSub, Nat.reduceMul, Nat.reduceAdd]
  refine call_pure (toF0 _) ?_
  simp -implicitDefEqProofs only [nat_neg, List.append_nil, Sheet.vs, e1, l2, tk2, on2, e3, one_cells on4, on4, ne_self, beq_self_eq_true, S0, S1, S2, S3, S4, S5, S6, S7, S8, S9, S10, S11, S12, S13, S14, S15, S16, S17, opv, opvs, eget, env0, setD, lenStr, lenSl, isNilP, isNilS, putAt, if_true, if_false, reduceCtorEq, Nat.reduceLeDiff, Nat.reduceEqDiff, Nat.reduceSub, Nat.reduceMul, Nat.reduceAdd]
  refine call_bor (fun σ => eqSheet a0.ts σ h0 (by omega)) rfl ⟨_, _, rfl, sees_agg p2 rfl (List.prefix_refl _), _, _, rfl, seesA_ts (v := .agg a0.vs) (by decide) h0 rfl, rfl⟩ ?_
  simp -implicitDefEqProofs only [nat_neg, List.append_nil, Sheet.vs, e1, l2, tk2, on2, e3, one_cells on4, on4, ne_self, beq_self_eq_true, S0, S1, S2, S3, S4, S5, S6, S7, S8, S9, S10, S11, S12, S13, S14, S15, S16, S17, opv, opvs, eget, env0, setD, lenStr, lenSl, isNilP, isNilS, putAt, if_true, if_false, reduceCtorEq, Nat.reduceLeDiff, Nat.reduceEqDiff, Nat.reduceSub, Nat.reduceMul, Nat.reduceAdd]
  have ub1 : (T.mkVL markTxt 1 a0.ts).2 ≤ 1 * 300000000 := by
    have := mkVL_ub (mt := markTxt) (ts := a0.ts) (k := 1) (cs := shSheet) (by decide) h0
    have h2 : a0.ts.length = 1 := rfl
    omega
  refine call_by (by rw [List.append_nil]; exact markSheet a0.ts u2 j2 1 _ h0 (by omega) p2 w2.1 (Nat.le_refl _) (by omega)) ?_
  rintro r s5 ⟨rfl, q5, le5, kb5⟩
  have kb5' : Kb j2 s4 s5 := kb5
  replace e1 := kb5'.box e1 (wi_out w2 (by omega))
  replace e3 := kb5'.box e3 (wi_out w2 (by omega))
  replace p4 := kb5'.own p4 (wi_apart w4 w2 (by omega))
  simp -implicitDefEqProofs only [nat_neg, List.append_nil, Sheet.vs, e1, l2, tk2, on2, e3, one_cells on4, on4, ne_self, beq_self_eq_true, S0, S1, S2, S3, S4, S5, S6, S7, S8, S9, S10, S11, S12, S13, S14, S15, S16, S17, opv, opvs, eget, env0, setD, lenStr, lenSl, isNilP, isNilS, putAt, if_true, if_false, reduceCtorEq, Nat.reduceLeDiff, Nat.reduceEqDiff, Nat.reduceSub, Nat.reduceMul, Nat.reduceAdd]
  refine call_bor (fun σ => eqSheetLineS t σ hT (by omega)) rfl ⟨_, _, rfl, sees_lst p4 rfl (List.prefix_refl _), _, _, rfl, seesA_t (by decide) hT, rfl⟩ ?_
  simp -implicitDefEqProofs only [nat_neg, List.append_nil, Sheet.vs, e1, l2, tk2, on2, e3, one_cells on4, on4, ne_self, beq_self_eq_true, S0, S1, S2, S3, S4, S5, S6, S7, S8, S9, S10, S11, S12, S13, S14, S15, S16, S17, opv, opvs, eget, env0, setD, lenStr, lenSl, isNilP, isNilS, putAt, if_true, if_false, reduceCtorEq, Nat.reduceLeDiff, Nat.reduceEqDiff, Nat.reduceSub, Nat.reduceMul, Nat.reduceAdd]
  refine call_by (by rw [List.append_nil]; exact markSheetLineS t u4 j4 1 _ hT (by omega) p4 w4.1 (Nat.le_refl _) hmt) ?_
  rintro r s6 ⟨rfl, q6, le6, kb6⟩
  have kb6' : Kb j4 s5 s6 := kb6
  replace e1 := kb6'.box e1 (wi_out w4 (by omega))
  replace e3 := kb6'.box e3 (wi_out w4 (by omega))
  have Hp := fun σ => heldSheetLineS t 1 σ hT (by omega) (Nat.le_refl _) hmt
  simp -implicitDefEqProofs only [nat_neg, List.append_nil, Sheet.vs, e1, l2, tk2, on2, e3, one_cells on4, on4, ne_self, beq_self_eq_true, S0, S1, S2, S3, S4, S5, S6, S7, S8, S9, S10, S11, S12, S13, S14, S15, S16, S17, opv, opvs, eget, env0, setD, lenStr, lenSl, isNilP, isNilS, putAt, if_true, if_false, reduceCtorEq, Nat.reduceLeDiff, Nat.reduceEqDiff, Nat.reduceSub, Nat.reduceMul, Nat.reduceAdd]
  refine call_bor (y := .t (.int .i64 ((T.mk markTxt 1 t).2 : Nat))) (fun σ => Hp σ) rfl ⟨_, _, rfl, sees_lst q6 rfl (List.prefix_refl _), _, _, rfl, sees_one rfl, rfl⟩ ?_
  simp -implicitDefEqProofs only [nat_neg, List.append_nil, Sheet.vs, e1, l2, tk2, on2, e3, one_cells on4, on4, ne_self, beq_self_eq_true, S0, S1, S2, S3, S4, S5, S6, S7, S8, S9, S10, S11, S12, S13, S14, S15, S16, S17, opv, opvs, eget, env0, setD, lenStr, lenSl, isNilP, isNilS, putAt, if_true, if_false, reduceCtorEq, Nat.reduceLeDiff, Nat.reduceEqDiff, Nat.reduceSub, Nat.reduceMul, Nat.reduceAdd]
  refine call_pure (toF0 _) ?_
  simp -implicitDefEqProofs only [nat_neg, List.append_nil, Sheet.vs, e1, l2, tk2, on2, e3, one_cells on4, on4, ne_self, beq_self_eq_true, S0, S1, S2, S3, S4, S5, S6, S7, S8, S9, S10, S11, S12, S13, S14, S15, S16, S17, opv, opvs, eget, env0, setD, lenStr, lenSl, isNilP, isNilS, putAt, if_true, if_false, reduceCtorEq, Nat.reduceLeDiff, Nat.reduceEqDiff, Nat.reduceSub, Nat.reduceMul, Nat.reduceAdd]
  refine call_pure (IpF _) ?_
  simp -implicitDefEqProofs only [nat_neg, List.append_nil, Sheet.vs, e1, l2, tk2, on2, e3, one_cells on4, on4, ne_self, beq_self_eq_true, S0, S1, S2, S3, S4, S5, S6, S7, S8, S9, S10, S11, S12, S13, S14, S15, S16, S17, opv, opvs, eget, env0, setD, lenStr, lenSl, isNilP, isNilS, putAt, if_true, if_false, reduceCtorEq, Nat.reduceLeDiff, Nat.reduceEqDiff, Nat.reduceSub, Nat.reduceMul, Nat.reduceAdd]
  refine call_pure (eqSheetLineS t _ hT (by omega)) ?_
  simp -implicitDefEqProofs only [nat_neg, List.append_nil, Sheet.vs, e1, l2, tk2, on2, e3, one_cells on4, on4, ne_self, beq_self_eq_true, S0, S1, S2, S3, S4, S5, S6, S7, S8, S9, S10, S11, S12, S13, S14, S15, S16, S17, opv, opvs, eget, env0, setD, lenStr, lenSl, isNilP, isNilS, putAt, if_true, if_false, reduceCtorEq, Nat.reduceLeDiff, Nat.reduceEqDiff, Nat.reduceSub, Nat.reduceMul, Nat.reduceAdd]
  refine call_bor (y := .t (.int .i64 ((T.mk markTxt 1 t).2 : Nat))) (fun σ => Hp σ) rfl ⟨_, _, rfl, sees_lst q6 rfl (List.prefix_refl _), _, _, rfl, sees_one rfl, rfl⟩ ?_
  simp -implicitDefEqProofs only [nat_neg, List.append_nil, Sheet.vs, e1, l2, tk2, on2, e3, one_cells on4, on4, ne_self, beq_self_eq_true, S0, S1, S2, S3, S4, S5, S6, S7, S8, S9, S10, S11, S12, S13, S14, S15, S16, S17, opv, opvs, eget, env0, setD, lenStr, lenSl, isNilP, isNilS, putAt, if_true, if_false, reduceCtorEq, Nat.reduceLeDiff, Nat.reduceEqDiff, Nat.reduceSub, Nat.reduceMul, Nat.reduceAdd]
  refine fin_keep ?_ rfl
  omega
end Go.Proofs.YtkppdeobinefbaaDoor.LSheetGet
