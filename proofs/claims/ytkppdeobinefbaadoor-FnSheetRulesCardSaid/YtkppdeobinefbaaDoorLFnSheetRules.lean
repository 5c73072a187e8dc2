/- FnSheetRules: what the law's code does: it returns true. Conditions: none. -/
import Derived.Test.YtkppdeobinefbaaDoorSheetDrawG
set_option linter.unusedSimpArgs false
set_option linter.unusedVariables false
set_option linter.defProp false
open Go Go.Ab
set_option maxHeartbeats 4000000
namespace Go.Proofs.YtkppdeobinefbaaDoor.LFnSheetRules
open Go.Proofs.YtkppdeobinefbaaDoor.W
def c_laws_wtWords : C := (.seq (.ops [⟨(some 4), none, (.mv (.c (.t (.bool false))))⟩]) (.seq (.seq (.ops [⟨(some 6), none, (.mv (.t 0))⟩, ⟨(some 7), none, (.len false (.t 6))⟩, ⟨(some 8), none, (.mv (.t 1))⟩, ⟨(some 9), none, (.len false (.t 8))⟩, ⟨(some 10), none, (.bin .neq (.t 7) (.t 9))⟩]) (.cond (.t 10) (.seq (.ops [⟨(some 4), none, (.mv (.c (.t (.bool false))))⟩]) .ret) .skip)) (.seq (.seq (.ops [⟨(some 5), none, (.mv (.c (.t (.int .i64 0))))⟩]) (.block 0 (.loop (.seq (.seq (.ops [⟨(some 11), none, (.mv (.t 5))⟩, ⟨(some 12), none, (.mv (.t 0))⟩, ⟨(some 13), none, (.len false (.t 12))⟩, ⟨(some 14), none, (.bin .lss (.t 11) (.t 13))⟩]) (.cond (.t 14) .skip (.exit 0))) (.seq (.block 1 (.seq (.drawn [(.mk 0 false ⟨(some 17), none, (.mv (.t 0))⟩ []), (.mk 1 false ⟨(some 18), none, (.mv (.t 5))⟩ []), (.mk 2 false ⟨(some 19), none, (.indexAddr 1 (.t 17) (.t 18))⟩ []), (.mk 3 false ⟨(some 20), none, (.load none (.t 19))⟩ []), (.mk 4 false ⟨(some 21), none, (.mv (.t 1))⟩ []), (.mk 5 false ⟨(some 22), none, (.mv (.t 5))⟩ []), (.mk 6 false ⟨(some 23), none, (.indexAddr 1 (.t 21) (.t 22))⟩ []), (.mk 7 false ⟨(some 24), none, (.load none (.t 23))⟩ []), (.mk 8 false ⟨(some 25), none, (.bin .neq (.t 20) (.t 24))⟩ [])]) (.cond (.t 25) (.seq (.ops [⟨(some 4), none, (.mv (.c (.t (.bool false))))⟩]) .ret) .skip))) (.ops [⟨(some 15), none, (.mv (.t 5))⟩, ⟨(some 16), none, (.bin .add (.t 15) (.c (.t (.int .i64 1))))⟩, ⟨(some 5), none, (.mv (.t 16))⟩])))))) (.seq (.ops [⟨(some 4), none, (.mv (.c (.t (.bool true))))⟩]) .ret))))
theorem k_laws_wtWords : comp Tryd.prog 26 (Tryd.f18.body.getD .skip) = some c_laws_wtWords := by kernel_rfl

theorem wt_words (l : List (List UInt8)) (hl : l.length ≤ 1048576) (σ : Store) : ACalls Tryd.prog 18 [.t (tStrs l), .t (tStrs l)] σ fun r σ' => r = .t (.bool true) ∧ σ' = σ := by
  refine acalls_of Tryd.func18 (by decide +kernel) (code := Tryd.f18.body.getD .skip) (n := 26) (c := c_laws_wtWords) (rs := [(.tmp 4)]) rfl rfl k_laws_wtWords (by kernel_rfl) (by simp) (fun hσ => ?_)
  have fin : ∀ {τ : Store}, retV σ.length (fun r σ' => r = .t (.bool true) ∧ σ' = σ) (σ ++ τ) (some [.t (.bool true)]) := ret_same rfl hσ rfl ⟨rfl, rfl⟩
  have fin0 : retV σ.length (fun r σ' => r = .t (.bool true) ∧ σ' = σ) σ (some [.t (.bool true)]) := ret_same0 rfl ⟨rfl, rfl⟩
  simp -implicitDefEqProofs only [c_laws_wtWords, List.length_map, ne_self, cond_f, S0, S1, S2, S3, S4, S5, S6, S7, S8, S9, S10, S11, S12, S13, S14, S15, S16, S17, opv, opvs, eget, env0, setD, lenStr, lenSl, isNilP, isNilS, putAt, if_true, if_false, reduceCtorEq, Nat.reduceLeDiff, Nat.reduceEqDiff, Nat.reduceSub, Nat.reduceMul, Nat.reduceAdd]
  refine loop_p [5, 0, 1] [0, 1] (fun k : Nat => [(5, .t (.int .i64 (k : Nat)))]) (fun k => k ≤ l.length) (fun k => l.length - k) 0 (by simp) (Nat.zero_le _) rfl ?_
  rintro k hk
  simp -implicitDefEqProofs only [keep, List.length_map, S0, S1, S2, S3, S4, S5, S6, S7, S8, S9, S10, S11, S12, S13, S14, S15, S16, S17, opv, opvs, eget, env0, setD, lenStr, lenSl, isNilP, isNilS, putAt, if_true, if_false, reduceCtorEq, Nat.reduceLeDiff, Nat.reduceEqDiff, Nat.reduceSub, Nat.reduceMul, Nat.reduceAdd]
  refine cond_split (fun h1 => ?_) (fun h1 => ?_)
  · obtain ⟨x, hx, hlt⟩ := at_of h1
    have more := i64_succ (show k < 4611686018427387904 by omega)
    simp -implicitDefEqProofs only [hx, List.getElem?_map, Option.map_some, tStr, nat_nn, Nat.zero_le, beq_self_eq_true, Bool.not_true, more, cond_f, S0, S1, S2, S3, S4, S5, S6, S7, S8, S9, S10, S11, S12, S13, S14, S15, S16, S17, opv, opvs, eget, env0, setD, lenStr, lenSl, isNilP, isNilS, putAt, if_true, if_false, reduceCtorEq, Nat.reduceLeDiff, Nat.reduceEqDiff, Nat.reduceSub, Nat.reduceMul, Nat.reduceAdd]
    exact lk_p0 (k + 1) (by simp) rfl (by omega) (by omega) rfl
  · simp -implicitDefEqProofs only [S0, S1, S2, S3, S4, S5, S6, S7, S8, S9, S10, S11, S12, S13, S14, S15, S16, S17, opv, opvs, eget, env0, setD, lenStr, lenSl, isNilP, isNilS, putAt, if_true, if_false, reduceCtorEq, Nat.reduceLeDiff, Nat.reduceEqDiff, Nat.reduceSub, Nat.reduceMul, Nat.reduceAdd]
    exact fin0

def typeI (t : Int) (s : List UInt8) : Bool :=
  if t = 1 then numI s else if t = 2 then (numI s || (decide (1 < s.length) && (s[0]?.getD 0 == 45) && !(s.drop 1 == [48]) && numI (s.drop 1)))
  else if t = 3 then nameS s else if t = 4 then decide (s.length ≤ 200) else if t = 5 then (s == [121, 101, 115] || s == [110, 111]) else (s == [110, 111, 110, 101] || s == [98, 101, 114, 116, 104] || s == [122, 111, 110, 101])
theorem type_I (t : Int) (s : List UInt8) : typeOk t s = typeI t s := by
  unfold typeOk typeI
  rw [num_eq, num_eq]
def fitI (words : List (List UInt8)) (x : Int × Nat) : Bool := typeI x.1 ((words[x.2]?).getD [])
theorem fit_I (words : List (List UInt8)) : fitP words = fitI words := by
  funext x
  unfold fitP fitI
  rw [type_I]
def fitsI (kind key : List UInt8) (words : List (List UInt8)) : Bool := match ruleOf kind key with
  | none => false
  | some x => x.Args.length == words.length && x.Args.zipIdx.all (fitI words)
theorem fits_I (kind key : List UInt8) (words : List (List UInt8)) : fitsR kind key words = fitsI kind key words := by
  unfold fitsR fitsI
  rw [fit_I]
  rfl
theorem rules_fit (kind : List UInt8) : (rulesR kind).all (fun r => r.Many || fitsR kind r.Key r.Default) = true := by
  have he : (fun r : SheetRule => r.Many || fitsR kind r.Key r.Default) = fun r => r.Many || fitsI kind r.Key r.Default := by
    funext r; rw [fits_I]
  rw [he]
  by_cases hk : W.kindOk kind = true
  · rcases rulesR_some hk with ⟨_, rfl⟩ | ⟨_, rfl⟩ | ⟨_, rfl⟩ <;> decide +kernel
  · rw [rulesR_none (by simpa using hk)]; rfl

def c_laws_FnSheetRules : C := (.seq (.ops [⟨(some 2), none, (.mv (.c (.t (.bool false))))⟩]) (.seq (.seq (.ops [⟨(some 11), none, (.mv (.t 0))⟩, ⟨(some 12), none, (.len false (.t 11))⟩, ⟨(some 13), none, (.bin .gtr (.t 12) (.c (.t (.int .i64 1048576))))⟩]) (.cond (.t 13) (.seq (.ops [⟨(some 2), none, (.mv (.c (.t (.bool true))))⟩]) .ret) .skip)) (.seq (.ops [⟨(some 14), none, (.mv (.t 0))⟩, ⟨(some 15), none, (.call (.c (.fn (.func 17) [])) [(.t 14)])⟩, ⟨(some 3), none, (.mv (.t 15))⟩]) (.seq (.ops [⟨(some 16), none, (.mv (.t 3))⟩, ⟨(some 17), none, (.call (.c (.fn (.func 13) [])) [(.t 16)])⟩, ⟨(some 4), none, (.mv (.t 17))⟩]) (.seq (.ops [⟨(some 18), none, (.mv (.t 3))⟩, ⟨(some 19), none, (.call (.c (.fn (.func 12) [])) [(.t 18)])⟩, ⟨(some 5), none, (.mv (.t 19))⟩]) (.seq (.seq (.ops [⟨(some 20), none, (.mv (.t 4))⟩, ⟨(some 21), none, (.len false (.t 20))⟩, ⟨(some 22), none, (.mv (.t 5))⟩, ⟨(some 23), none, (.len false (.t 22))⟩, ⟨(some 24), none, (.bin .neq (.t 21) (.t 23))⟩]) (.cond (.t 24) (.seq (.ops [⟨(some 2), none, (.mv (.c (.t (.bool false))))⟩]) .ret) .skip)) (.seq (.seq (.ops [⟨(some 6), none, (.mv (.c (.t (.int .i64 0))))⟩]) (.block 0 (.loop (.seq (.seq (.ops [⟨(some 25), none, (.mv (.t 6))⟩, ⟨(some 26), none, (.mv (.t 4))⟩, ⟨(some 27), none, (.len false (.t 26))⟩, ⟨(some 28), none, (.bin .lss (.t 25) (.t 27))⟩]) (.cond (.t 28) .skip (.exit 0))) (.seq (.block 1 (.seq (.seq (.drawn [(.mk 0 false ⟨(some 31), none, (.mv (.t 4))⟩ []), (.mk 1 false ⟨(some 32), none, (.mv (.t 6))⟩ []), (.mk 2 false ⟨(some 33), none, (.indexAddr 4 (.t 31) (.t 32))⟩ []), (.mk 3 false ⟨(some 34), none, (.fieldAddr 0 (.t 33))⟩ []), (.mk 4 false ⟨(some 35), none, (.load none (.t 34))⟩ []), (.mk 5 false ⟨(some 36), none, (.mv (.t 5))⟩ []), (.mk 6 false ⟨(some 37), none, (.mv (.t 6))⟩ []), (.mk 7 false ⟨(some 38), none, (.indexAddr 4 (.t 36) (.t 37))⟩ []), (.mk 8 false ⟨(some 39), none, (.fieldAddr 0 (.t 38))⟩ []), (.mk 9 false ⟨(some 40), none, (.load none (.t 39))⟩ []), (.mk 10 false ⟨(some 41), none, (.bin .neq (.t 35) (.t 40))⟩ []), (.mk 11 false ⟨(some 42), none, (.mv (.t 41))⟩ []), (.mk 12 false ⟨(some 43), (some ⟨42, false⟩), (.mv (.t 4))⟩ []), (.mk 13 false ⟨(some 44), (some ⟨42, false⟩), (.mv (.t 6))⟩ []), (.mk 14 false ⟨(some 45), (some ⟨42, false⟩), (.indexAddr 4 (.t 43) (.t 44))⟩ []), (.mk 15 false ⟨(some 46), (some ⟨42, false⟩), (.fieldAddr 2 (.t 45))⟩ []), (.mk 16 false ⟨(some 47), (some ⟨42, false⟩), (.load none (.t 46))⟩ []), (.mk 17 false ⟨(some 48), (some ⟨42, false⟩), (.mv (.t 5))⟩ []), (.mk 18 false ⟨(some 49), (some ⟨42, false⟩), (.mv (.t 6))⟩ []), (.mk 19 false ⟨(some 50), (some ⟨42, false⟩), (.indexAddr 4 (.t 48) (.t 49))⟩ []), (.mk 20 false ⟨(some 51), (some ⟨42, false⟩), (.fieldAddr 2 (.t 50))⟩ []), (.mk 21 false ⟨(some 52), (some ⟨42, false⟩), (.load none (.t 51))⟩ []), (.mk 22 false ⟨(some 53), (some ⟨42, false⟩), (.eqB true (.t 47) (.t 52))⟩ []), (.mk 23 false ⟨(some 54), none, (.pick (.t 42) (.c (.t (.bool true))) (.t 53))⟩ []), (.mk 24 false ⟨(some 55), none, (.mv (.t 54))⟩ []), (.mk 25 false ⟨(some 56), (some ⟨55, false⟩), (.mv (.t 4))⟩ []), (.mk 26 false ⟨(some 57), (some ⟨55, false⟩), (.mv (.t 6))⟩ []), (.mk 27 false ⟨(some 58), (some ⟨55, false⟩), (.indexAddr 4 (.t 56) (.t 57))⟩ []), (.mk 28 false ⟨(some 59), (some ⟨55, false⟩), (.fieldAddr 3 (.t 58))⟩ []), (.mk 29 false ⟨(some 60), (some ⟨55, false⟩), (.load none (.t 59))⟩ []), (.mk 30 false ⟨(some 61), (some ⟨55, false⟩), (.mv (.t 5))⟩ []), (.mk 31 false ⟨(some 62), (some ⟨55, false⟩), (.mv (.t 6))⟩ []), (.mk 32 false ⟨(some 63), (some ⟨55, false⟩), (.indexAddr 4 (.t 61) (.t 62))⟩ []), (.mk 33 false ⟨(some 64), (some ⟨55, false⟩), (.fieldAddr 3 (.t 63))⟩ []), (.mk 34 false ⟨(some 65), (some ⟨55, false⟩), (.load none (.t 64))⟩ []), (.mk 35 false ⟨(some 66), (some ⟨55, false⟩), (.call (.c (.fn (.func 18) [])) [(.t 60), (.t 65)])⟩ []), (.mk 36 false ⟨(some 67), (some ⟨55, false⟩), (.un .not (.t 66))⟩ []), (.mk 37 false ⟨(some 68), none, (.pick (.t 55) (.c (.t (.bool true))) (.t 67))⟩ []), (.mk 38 false ⟨(some 69), none, (.mv (.t 68))⟩ []), (.mk 39 false ⟨(some 70), (some ⟨69, false⟩), (.mv (.t 4))⟩ []), (.mk 40 false ⟨(some 71), (some ⟨69, false⟩), (.mv (.t 6))⟩ []), (.mk 41 false ⟨(some 72), (some ⟨69, false⟩), (.indexAddr 4 (.t 70) (.t 71))⟩ []), (.mk 42 false ⟨(some 73), (some ⟨69, false⟩), (.fieldAddr 1 (.t 72))⟩ []), (.mk 43 false ⟨(some 74), (some ⟨69, false⟩), (.load none (.t 73))⟩ []), (.mk 44 false ⟨(some 75), (some ⟨69, false⟩), (.len false (.t 74))⟩ []), (.mk 45 false ⟨(some 76), (some ⟨69, false⟩), (.mv (.t 5))⟩ []), (.mk 46 false ⟨(some 77), (some ⟨69, false⟩), (.mv (.t 6))⟩ []), (.mk 47 false ⟨(some 78), (some ⟨69, false⟩), (.indexAddr 4 (.t 76) (.t 77))⟩ []), (.mk 48 false ⟨(some 79), (some ⟨69, false⟩), (.fieldAddr 1 (.t 78))⟩ []), (.mk 49 false ⟨(some 80), (some ⟨69, false⟩), (.load none (.t 79))⟩ []), (.mk 50 false ⟨(some 81), (some ⟨69, false⟩), (.len false (.t 80))⟩ []), (.mk 51 false ⟨(some 82), (some ⟨69, false⟩), (.bin .neq (.t 75) (.t 81))⟩ []), (.mk 52 false ⟨(some 83), none, (.pick (.t 69) (.c (.t (.bool true))) (.t 82))⟩ [])]) (.cond (.t 83) (.seq (.ops [⟨(some 2), none, (.mv (.c (.t (.bool false))))⟩]) .ret) .skip)) (.seq (.seq (.ops [⟨(some 7), none, (.mv (.c (.t (.int .i64 0))))⟩]) (.block 2 (.loop (.seq (.seq (.ops [⟨(some 84), none, (.mv (.t 7))⟩, ⟨(some 85), none, (.mv (.t 4))⟩, ⟨(some 86), none, (.mv (.t 6))⟩, ⟨(some 87), none, (.indexAddr 4 (.t 85) (.t 86))⟩, ⟨(some 88), none, (.fieldAddr 1 (.t 87))⟩, ⟨(some 89), none, (.load none (.t 88))⟩, ⟨(some 90), none, (.len false (.t 89))⟩, ⟨(some 91), none, (.bin .lss (.t 84) (.t 90))⟩]) (.cond (.t 91) .skip (.exit 2))) (.seq (.block 3 (.seq (.drawn [(.mk 0 false ⟨(some 94), none, (.mv (.t 4))⟩ []), (.mk 1 false ⟨(some 95), none, (.mv (.t 6))⟩ []), (.mk 2 false ⟨(some 96), none, (.indexAddr 4 (.t 94) (.t 95))⟩ []), (.mk 3 false ⟨(some 97), none, (.fieldAddr 1 (.t 96))⟩ []), (.mk 4 false ⟨(some 98), none, (.load none (.t 97))⟩ []), (.mk 5 false ⟨(some 99), none, (.mv (.t 7))⟩ []), (.mk 6 false ⟨(some 100), none, (.indexAddr 1 (.t 98) (.t 99))⟩ []), (.mk 7 false ⟨(some 101), none, (.load none (.t 100))⟩ []), (.mk 8 false ⟨(some 102), none, (.mv (.t 5))⟩ []), (.mk 9 false ⟨(some 103), none, (.mv (.t 6))⟩ []), (.mk 10 false ⟨(some 104), none, (.indexAddr 4 (.t 102) (.t 103))⟩ []), (.mk 11 false ⟨(some 105), none, (.fieldAddr 1 (.t 104))⟩ []), (.mk 12 false ⟨(some 106), none, (.load none (.t 105))⟩ []), (.mk 13 false ⟨(some 107), none, (.mv (.t 7))⟩ []), (.mk 14 false ⟨(some 108), none, (.indexAddr 1 (.t 106) (.t 107))⟩ []), (.mk 15 false ⟨(some 109), none, (.load none (.t 108))⟩ []), (.mk 16 false ⟨(some 110), none, (.bin .neq (.t 101) (.t 109))⟩ [])]) (.cond (.t 110) (.seq (.ops [⟨(some 2), none, (.mv (.c (.t (.bool false))))⟩]) .ret) .skip))) (.ops [⟨(some 92), none, (.mv (.t 7))⟩, ⟨(some 93), none, (.bin .add (.t 92) (.c (.t (.int .i64 1))))⟩, ⟨(some 7), none, (.mv (.t 93))⟩])))))) (.seq (.drawn [(.mk 0 false ⟨(some 111), none, (.mv (.t 4))⟩ []), (.mk 1 false ⟨(some 112), none, (.mv (.t 6))⟩ []), (.mk 2 false ⟨(some 113), none, (.indexAddr 4 (.t 111) (.t 112))⟩ []), (.mk 3 false ⟨(some 114), none, (.fieldAddr 2 (.t 113))⟩ []), (.mk 4 false ⟨(some 115), none, (.load none (.t 114))⟩ []), (.mk 5 false ⟨(some 116), none, (.un .not (.t 115))⟩ []), (.mk 6 false ⟨(some 117), none, (.mv (.t 116))⟩ []), (.mk 7 false ⟨(some 118), (some ⟨117, true⟩), (.mv (.t 3))⟩ []), (.mk 8 false ⟨(some 119), (some ⟨117, true⟩), (.mv (.t 4))⟩ []), (.mk 9 false ⟨(some 120), (some ⟨117, true⟩), (.mv (.t 6))⟩ []), (.mk 10 false ⟨(some 121), (some ⟨117, true⟩), (.indexAddr 4 (.t 119) (.t 120))⟩ []), (.mk 11 false ⟨(some 122), (some ⟨117, true⟩), (.fieldAddr 0 (.t 121))⟩ []), (.mk 12 false ⟨(some 123), (some ⟨117, true⟩), (.load none (.t 122))⟩ []), (.mk 13 false ⟨(some 124), (some ⟨117, true⟩), (.mv (.t 4))⟩ []), (.mk 14 false ⟨(some 125), (some ⟨117, true⟩), (.mv (.t 6))⟩ []), (.mk 15 false ⟨(some 126), (some ⟨117, true⟩), (.indexAddr 4 (.t 124) (.t 125))⟩ []), (.mk 16 false ⟨(some 127), (some ⟨117, true⟩), (.fieldAddr 3 (.t 126))⟩ []), (.mk 17 false ⟨(some 128), (some ⟨117, true⟩), (.load none (.t 127))⟩ []), (.mk 18 false ⟨(some 129), (some ⟨117, true⟩), (.call (.c (.fn (.func 19) [])) [(.t 118), (.t 123), (.t 128)])⟩ []), (.mk 19 false ⟨(some 130), (some ⟨117, true⟩), (.un .not (.t 129))⟩ []), (.mk 20 false ⟨(some 131), none, (.pick (.t 117) (.t 130) (.c (.t (.bool false))))⟩ [])]) (.cond (.t 131) (.seq (.ops [⟨(some 2), none, (.mv (.c (.t (.bool false))))⟩]) .ret) .skip))))) (.ops [⟨(some 29), none, (.mv (.t 6))⟩, ⟨(some 30), none, (.bin .add (.t 29) (.c (.t (.int .i64 1))))⟩, ⟨(some 6), none, (.mv (.t 30))⟩])))))) (.seq (.ops [⟨(some 133), none, (.mv (.t 0))⟩, ⟨(some 134), none, (.call (.c (.fn (.func 20) [])) [(.t 133)])⟩, ⟨(some 132), none, (.mv (.t 134))⟩, ⟨(some 135), none, (.extract (.t 132) 0)⟩, ⟨(some 136), none, (.extract (.t 132) 1)⟩, ⟨(some 137), none, (.extract (.t 132) 2)⟩, ⟨(some 8), none, (.mv (.t 135))⟩, ⟨(some 9), none, (.mv (.t 136))⟩, ⟨(some 10), none, (.mv (.t 137))⟩]) (.seq (.ops [⟨(some 138), none, (.mv (.t 8))⟩, ⟨(some 139), none, (.mv (.t 9))⟩, ⟨(some 140), none, (.mv (.t 10))⟩, ⟨(some 141), none, (.call (.c (.fn (.func 19) [])) [(.t 138), (.t 139), (.t 140)])⟩, ⟨(some 142), none, (.mv (.t 8))⟩, ⟨(some 143), none, (.mv (.t 9))⟩, ⟨(some 144), none, (.mv (.t 10))⟩, ⟨(some 145), none, (.call (.c (.fn (.func 21) [])) [(.t 142), (.t 143), (.t 144)])⟩, ⟨(some 146), none, (.eqB false (.t 141) (.t 145))⟩, ⟨(some 2), none, (.mv (.t 146))⟩]) .ret)))))))))
theorem k_laws_FnSheetRules : comp Tryd.prog 147 (Tryd.f4.body.getD .skip) = some c_laws_FnSheetRules := by kernel_rfl

set_option maxHeartbeats 16000000 in
set_option maxRecDepth 20000 in
theorem lawFnSheetRules (a0 : List UInt8) (σ : Store) : ACalls Tryd.prog 4 [.t (.lst 1 (byteT a0))] σ fun r _ => r = .t (.bool true) := by
  refine acalls_of Tryd.func4 (by decide +kernel) (code := Tryd.f4.body.getD .skip) (n := 147) (c := c_laws_FnSheetRules) (rs := [(.tmp 2)]) rfl rfl k_laws_FnSheetRules (by kernel_rfl) (by simp) (fun hσ => ?_)
  have fin : ∀ {τ : Store}, retV σ.length (fun r _ => r = .t (.bool true)) (σ ++ τ) (some [.t (.bool true)]) := ret_same rfl hσ rfl rfl
  have fin0 : retV σ.length (fun r _ => r = .t (.bool true)) σ (some [.t (.bool true)]) := ret_same0 rfl rfl
  simp -implicitDefEqProofs only [c_laws_FnSheetRules, byteT_len, S0, S1, S2, S3, S4, S5, S6, S7, S8, S9, S10, S11, S12, S13, S14, S15, S16, S17, opv, opvs, eget, env0, setD, lenStr, lenSl, isNilP, isNilS, putAt, if_true, if_false, reduceCtorEq, Nat.reduceLeDiff, Nat.reduceEqDiff, Nat.reduceSub, Nat.reduceMul, Nat.reduceAdd]
  refine cond_split (fun h => ?_) (fun h => ?_)
  · simp -implicitDefEqProofs only [S0, S1, S2, S3, S4, S5, S6, S7, S8, S9, S10, S11, S12, S13, S14, S15, S16, S17, opv, opvs, eget, env0, setD, lenStr, lenSl, isNilP, isNilS, putAt, if_true, if_false, reduceCtorEq, Nat.reduceLeDiff, Nat.reduceEqDiff, Nat.reduceSub, Nat.reduceMul, Nat.reduceAdd]
    exact fin0
  simp -implicitDefEqProofs only [S0, S1, S2, S3, S4, S5, S6, S7, S8, S9, S10, S11, S12, S13, S14, S15, S16, S17, opv, opvs, eget, env0, setD, lenStr, lenSl, isNilP, isNilS, putAt, if_true, if_false, reduceCtorEq, Nat.reduceLeDiff, Nat.reduceEqDiff, Nat.reduceSub, Nat.reduceMul, Nat.reduceAdd]
  refine call_by (by rw [List.append_nil]; exact draw_kind a0 _) ?_
  rintro r σ' ⟨kind, rfl, rfl, hk20⟩
  simp -implicitDefEqProofs only [S0, S1, S2, S3, S4, S5, S6, S7, S8, S9, S10, S11, S12, S13, S14, S15, S16, S17, opv, opvs, eget, env0, setD, lenStr, lenSl, isNilP, isNilS, putAt, if_true, if_false, reduceCtorEq, Nat.reduceLeDiff, Nat.reduceEqDiff, Nat.reduceSub, Nat.reduceMul, Nat.reduceAdd]
  refine call_pure (impl_SheetRulesF kind _) ?_
  simp -implicitDefEqProofs only [S0, S1, S2, S3, S4, S5, S6, S7, S8, S9, S10, S11, S12, S13, S14, S15, S16, S17, opv, opvs, eget, env0, setD, lenStr, lenSl, isNilP, isNilS, putAt, if_true, if_false, reduceCtorEq, Nat.reduceLeDiff, Nat.reduceEqDiff, Nat.reduceSub, Nat.reduceMul, Nat.reduceAdd]
  refine call_pure (spec_SheetRules kind _) ?_
  rcases hk : W.kindOk kind with _ | _
  · rw [rulesR_none hk, if_neg (by simp)]
    have c0 : ((((0 : Nat) : Int)) != ((0 : Nat) : Int)) = false := rfl
    simp -implicitDefEqProofs only [tSheetRuleS, List.map_nil, List.length_nil, c0, cond_t, cond_f, S0, S1, S2, S3, S4, S5, S6, S7, S8, S9, S10, S11, S12, S13, S14, S15, S16, S17, opv, opvs, eget, env0, setD, lenStr, lenSl, isNilP, isNilS, putAt, if_true, if_false, reduceCtorEq, Nat.reduceLeDiff, Nat.reduceEqDiff, Nat.reduceSub, Nat.reduceMul, Nat.reduceAdd]
    refine loop_p [6, 0, 3, 4, 5] [0, 3, 4, 5] (fun k : Nat => [(6, .t (.int .i64 (k : Nat)))]) (fun k => k = 0) (fun k => k) 0 (by simp) rfl rfl ?_
    rintro k rfl
    simp -implicitDefEqProofs only [keep, List.length_nil, S0, S1, S2, S3, S4, S5, S6, S7, S8, S9, S10, S11, S12, S13, S14, S15, S16, S17, opv, opvs, eget, env0, setD, lenStr, lenSl, isNilP, isNilS, putAt, if_true, if_false, reduceCtorEq, Nat.reduceLeDiff, Nat.reduceEqDiff, Nat.reduceSub, Nat.reduceMul, Nat.reduceAdd]
    refine cond_split (fun h1 => ?_) (fun h1 => ?_)
    · simp at h1
    simp -implicitDefEqProofs only [S0, S1, S2, S3, S4, S5, S6, S7, S8, S9, S10, S11, S12, S13, S14, S15, S16, S17, opv, opvs, eget, env0, setD, lenStr, lenSl, isNilP, isNilS, putAt, if_true, if_false, reduceCtorEq, Nat.reduceLeDiff, Nat.reduceEqDiff, Nat.reduceSub, Nat.reduceMul, Nat.reduceAdd]
    refine call_by (by rw [List.append_nil]; exact draw_fits a0 _) ?_
    rintro r σ2 ⟨⟨kd, key, ws, v, is, τ, rfl, rfl, ow, h1, h2, h3, h4⟩⟩
    have on := ow.one
    have hws : StrsOk ws := ⟨by omega, fun w hw => by have := h4 w hw; omega⟩
    simp -implicitDefEqProofs only [on, one_cells on, S0, S1, S2, S3, S4, S5, S6, S7, S8, S9, S10, S11, S12, S13, S14, S15, S16, S17, opv, opvs, eget, env0, setD, lenStr, lenSl, isNilP, isNilS, putAt, if_true, if_false, reduceCtorEq, Nat.reduceLeDiff, Nat.reduceEqDiff, Nat.reduceSub, Nat.reduceMul, Nat.reduceAdd]
    first
      | refine call_bor (fun σ => impl_SheetFits0 kd key ws hws σ) rfl ⟨_, _, rfl, sees_one rfl, _, _, rfl, sees_one rfl, _, _, rfl, sees_lst ow rfl (List.prefix_refl _), rfl⟩ ?_
      | skip
    simp -implicitDefEqProofs only [on, one_cells on, S0, S1, S2, S3, S4, S5, S6, S7, S8, S9, S10, S11, S12, S13, S14, S15, S16, S17, opv, opvs, eget, env0, setD, lenStr, lenSl, isNilP, isNilS, putAt, if_true, if_false, reduceCtorEq, Nat.reduceLeDiff, Nat.reduceEqDiff, Nat.reduceSub, Nat.reduceMul, Nat.reduceAdd]
    refine call_bor (fun σ => spec_SheetFits0 kd key ws hws σ) rfl ⟨_, _, rfl, sees_one rfl, _, _, rfl, sees_one rfl, _, _, rfl, sees_lst ow rfl (List.prefix_refl _), rfl⟩ ?_
    simp -implicitDefEqProofs only [beq_self_eq_true, on, one_cells on, S0, S1, S2, S3, S4, S5, S6, S7, S8, S9, S10, S11, S12, S13, S14, S15, S16, S17, opv, opvs, eget, env0, setD, lenStr, lenSl, isNilP, isNilS, putAt, if_true, if_false, reduceCtorEq, Nat.reduceLeDiff, Nat.reduceEqDiff, Nat.reduceSub, Nat.reduceMul, Nat.reduceAdd]
    first | exact fin | exact fin0
  · rw [if_pos rfl]
    obtain ⟨hn12, hsm⟩ := rules_small kind
    have hfit := rules_fit kind
    obtain ⟨L, hL⟩ : ∃ L, L = rulesR kind := ⟨_, rfl⟩
    rw [← hL] at hn12 hsm hfit ⊢
    simp -implicitDefEqProofs only [List.length_map, bne_self_eq_false, cond_t, cond_f, tSheetRuleS, S0, S1, S2, S3, S4, S5, S6, S7, S8, S9, S10, S11, S12, S13, S14, S15, S16, S17, opv, opvs, eget, env0, setD, lenStr, lenSl, isNilP, isNilS, putAt, if_true, if_false, reduceCtorEq, Nat.reduceLeDiff, Nat.reduceEqDiff, Nat.reduceSub, Nat.reduceMul, Nat.reduceAdd]
    refine loop_p [6, 0, 3, 4, 5] [0, 3, 4, 5] (fun k : Nat => [(6, .t (.int .i64 (k : Nat)))]) (fun k => k ≤ L.length) (fun k => L.length - k) 0 (by simp) (Nat.zero_le _) rfl ?_
    rintro k hkk
    simp -implicitDefEqProofs only [keep, List.length_map, S0, S1, S2, S3, S4, S5, S6, S7, S8, S9, S10, S11, S12, S13, S14, S15, S16, S17, opv, opvs, eget, env0, setD, lenStr, lenSl, isNilP, isNilS, putAt, if_true, if_false, reduceCtorEq, Nat.reduceLeDiff, Nat.reduceEqDiff, Nat.reduceSub, Nat.reduceMul, Nat.reduceAdd]
    refine cond_split (fun h1 => ?_) (fun h1 => ?_)
    · obtain ⟨x, hx, hlt⟩ := at_of h1
      have more := i64_succ (show k < 4611686018427387904 by omega)
      have hs := List.all_eq_true.1 hsm x (mem_at hx)
      have hfx := List.all_eq_true.1 hfit x (mem_at hx)
      simp only [ruleSmall, Bool.and_eq_true, decide_eq_true_eq, List.all_eq_true] at hs
      obtain ⟨⟨⟨⟨m1, m2⟩, m3⟩, m4⟩, m5⟩ := hs
      have hd : StrsOk x.Default := ⟨by omega, fun w hw => by have := m5 w hw; omega⟩
      simp -implicitDefEqProofs only [hx, nat_nn, Nat.zero_le, List.getElem?_map, Option.map_some, List.length_map, tSheetRuleS, SheetRule.ts, bne_self_eq_false, ne_self, beq_self_eq_true, Bool.not_true, more, cond_t, cond_f, S0, S1, S2, S3, S4, S5, S6, S7, S8, S9, S10, S11, S12, S13, S14, S15, S16, S17, opv, opvs, eget, env0, setD, lenStr, lenSl, isNilP, isNilS, putAt, if_true, if_false, reduceCtorEq, Nat.reduceLeDiff, Nat.reduceEqDiff, Nat.reduceSub, Nat.reduceMul, Nat.reduceAdd]
      have hwt := wt_words x.Default hd.1
      simp only [tStrs] at hwt
      refine call_pure (hwt _) ?_
      simp -implicitDefEqProofs only [hx, nat_nn, Nat.zero_le, List.getElem?_map, Option.map_some, List.length_map, tSheetRuleS, SheetRule.ts, bne_self_eq_false, ne_self, beq_self_eq_true, Bool.not_true, more, cond_t, cond_f, S0, S1, S2, S3, S4, S5, S6, S7, S8, S9, S10, S11, S12, S13, S14, S15, S16, S17, opv, opvs, eget, env0, setD, lenStr, lenSl, isNilP, isNilS, putAt, if_true, if_false, reduceCtorEq, Nat.reduceLeDiff, Nat.reduceEqDiff, Nat.reduceSub, Nat.reduceMul, Nat.reduceAdd]
      refine loop_p [7, 0, 3, 4, 5, 6] [0, 3, 4, 5, 6] (fun j : Nat => [(7, .t (.int .i64 (j : Nat)))]) (fun j => j ≤ x.Args.length) (fun j => x.Args.length - j) 0 (by simp) (Nat.zero_le _) rfl ?_
      rintro j hjj
      simp -implicitDefEqProofs only [keep, hx, nat_nn, Nat.zero_le, List.getElem?_map, Option.map_some, List.length_map, tSheetRuleS, SheetRule.ts, S0, S1, S2, S3, S4, S5, S6, S7, S8, S9, S10, S11, S12, S13, S14, S15, S16, S17, opv, opvs, eget, env0, setD, lenStr, lenSl, isNilP, isNilS, putAt, if_true, if_false, reduceCtorEq, Nat.reduceLeDiff, Nat.reduceEqDiff, Nat.reduceSub, Nat.reduceMul, Nat.reduceAdd]
      refine cond_split (fun h3 => ?_) (fun h3 => ?_)
      · obtain ⟨t, ht, hlt2⟩ := at_of h3
        have more2 := i64_succ (show j < 4611686018427387904 by omega)
        simp -implicitDefEqProofs only [hx, ht, nat_nn, Nat.zero_le, List.getElem?_map, Option.map_some, List.length_map, tSheetRuleS, SheetRule.ts, tInt, bne_self_eq_false, ne_self, beq_self_eq_true, Bool.not_true, more2, cond_t, cond_f, S0, S1, S2, S3, S4, S5, S6, S7, S8, S9, S10, S11, S12, S13, S14, S15, S16, S17, opv, opvs, eget, env0, setD, lenStr, lenSl, isNilP, isNilS, putAt, if_true, if_false, reduceCtorEq, Nat.reduceLeDiff, Nat.reduceEqDiff, Nat.reduceSub, Nat.reduceMul, Nat.reduceAdd]
        exact lk_p0 (j + 1) (by simp) (by simp) (by omega) (by omega) rfl
      · simp -implicitDefEqProofs only [hx, nat_nn, Nat.zero_le, List.getElem?_map, Option.map_some, List.length_map, tSheetRuleS, SheetRule.ts, S0, S1, S2, S3, S4, S5, S6, S7, S8, S9, S10, S11, S12, S13, S14, S15, S16, S17, opv, opvs, eget, env0, setD, lenStr, lenSl, isNilP, isNilS, putAt, if_true, if_false, reduceCtorEq, Nat.reduceLeDiff, Nat.reduceEqDiff, Nat.reduceSub, Nat.reduceMul, Nat.reduceAdd]
        rcases hm : x.Many with _ | _
        · have hfx' : fitsR kind x.Key x.Default = true := by rw [hm] at hfx; simpa using hfx
          simp -implicitDefEqProofs only [hm, hx, nat_nn, Nat.zero_le, List.getElem?_map, Option.map_some, List.length_map, tSheetRuleS, SheetRule.ts, cond_t, cond_f, Bool.not_false, S0, S1, S2, S3, S4, S5, S6, S7, S8, S9, S10, S11, S12, S13, S14, S15, S16, S17, opv, opvs, eget, env0, setD, lenStr, lenSl, isNilP, isNilS, putAt, if_true, if_false, reduceCtorEq, Nat.reduceLeDiff, Nat.reduceEqDiff, Nat.reduceSub, Nat.reduceMul, Nat.reduceAdd]
          have hsf := impl_SheetFits0 kind x.Key x.Default hd
          simp only [tStrs] at hsf
          refine call_pure (hsf _) ?_
          rw [hfx']
          simp -implicitDefEqProofs only [cond_t, cond_f, Bool.not_true, more, S0, S1, S2, S3, S4, S5, S6, S7, S8, S9, S10, S11, S12, S13, S14, S15, S16, S17, opv, opvs, eget, env0, setD, lenStr, lenSl, isNilP, isNilS, putAt, if_true, if_false, reduceCtorEq, Nat.reduceLeDiff, Nat.reduceEqDiff, Nat.reduceSub, Nat.reduceMul, Nat.reduceAdd]
          exact lk_p0 (k + 1) (by simp) (by simp) (by omega) (by omega) rfl
        · simp -implicitDefEqProofs only [hm, hx, nat_nn, Nat.zero_le, List.getElem?_map, Option.map_some, List.length_map, tSheetRuleS, SheetRule.ts, cond_t, cond_f, Bool.not_true, more, S0, S1, S2, S3, S4, S5, S6, S7, S8, S9, S10, S11, S12, S13, S14, S15, S16, S17, opv, opvs, eget, env0, setD, lenStr, lenSl, isNilP, isNilS, putAt, if_true, if_false, reduceCtorEq, Nat.reduceLeDiff, Nat.reduceEqDiff, Nat.reduceSub, Nat.reduceMul, Nat.reduceAdd]
          exact lk_p0 (k + 1) (by simp) (by simp) (by omega) (by omega) rfl
    · skip
      simp -implicitDefEqProofs only [S0, S1, S2, S3, S4, S5, S6, S7, S8, S9, S10, S11, S12, S13, S14, S15, S16, S17, opv, opvs, eget, env0, setD, lenStr, lenSl, isNilP, isNilS, putAt, if_true, if_false, reduceCtorEq, Nat.reduceLeDiff, Nat.reduceEqDiff, Nat.reduceSub, Nat.reduceMul, Nat.reduceAdd]
      refine call_by (by rw [List.append_nil]; exact draw_fits a0 _) ?_
      rintro r σ2 ⟨⟨kd, key, ws, v, is, τ, rfl, rfl, ow, h1, h2, h3, h4⟩⟩
      have on := ow.one
      have hws : StrsOk ws := ⟨by omega, fun w hw => by have := h4 w hw; omega⟩
      simp -implicitDefEqProofs only [on, one_cells on, S0, S1, S2, S3, S4, S5, S6, S7, S8, S9, S10, S11, S12, S13, S14, S15, S16, S17, opv, opvs, eget, env0, setD, lenStr, lenSl, isNilP, isNilS, putAt, if_true, if_false, reduceCtorEq, Nat.reduceLeDiff, Nat.reduceEqDiff, Nat.reduceSub, Nat.reduceMul, Nat.reduceAdd]
      first
        | refine call_bor (fun σ => impl_SheetFits0 kd key ws hws σ) rfl ⟨_, _, rfl, sees_one rfl, _, _, rfl, sees_one rfl, _, _, rfl, sees_lst ow rfl (List.prefix_refl _), rfl⟩ ?_
        | skip
      simp -implicitDefEqProofs only [on, one_cells on, S0, S1, S2, S3, S4, S5, S6, S7, S8, S9, S10, S11, S12, S13, S14, S15, S16, S17, opv, opvs, eget, env0, setD, lenStr, lenSl, isNilP, isNilS, putAt, if_true, if_false, reduceCtorEq, Nat.reduceLeDiff, Nat.reduceEqDiff, Nat.reduceSub, Nat.reduceMul, Nat.reduceAdd]
      refine call_bor (fun σ => spec_SheetFits0 kd key ws hws σ) rfl ⟨_, _, rfl, sees_one rfl, _, _, rfl, sees_one rfl, _, _, rfl, sees_lst ow rfl (List.prefix_refl _), rfl⟩ ?_
      simp -implicitDefEqProofs only [beq_self_eq_true, on, one_cells on, S0, S1, S2, S3, S4, S5, S6, S7, S8, S9, S10, S11, S12, S13, S14, S15, S16, S17, opv, opvs, eget, env0, setD, lenStr, lenSl, isNilP, isNilS, putAt, if_true, if_false, reduceCtorEq, Nat.reduceLeDiff, Nat.reduceEqDiff, Nat.reduceSub, Nat.reduceMul, Nat.reduceAdd]
      first | exact fin | exact fin0

end Go.Proofs.YtkppdeobinefbaaDoor.LFnSheetRules
