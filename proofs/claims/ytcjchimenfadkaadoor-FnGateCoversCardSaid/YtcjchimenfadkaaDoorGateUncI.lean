/- The first numbered name: the program. Conditions: none. -/
import Derived.Test.YtcjchimenfadkaaDoorGateUncT
import Derived.Test.YtcjchimenfadkaaDoorItoa
import Derived.Test.YtcjchimenfadkaaDoorAb4
import Derived.Test.YtcjchimenfadkaaDoorAb7
set_option linter.unusedSimpArgs false
set_option linter.unusedVariables false
set_option linter.defProp false
open Go Go.Ab
set_option maxHeartbeats 2000000
namespace Go.Proofs.YtcjchimenfadkaaDoor.W
abbrev κS : List UInt8 → V := fun s => .t (.str s)
def setF (l : List (List UInt8)) : List UInt8 → Option V := fun s => if hasW l s = true then some (.agg []) else none
theorem setF_get (l : List (List UInt8)) (s : List UInt8) : (setF l s).getD (.agg []) = .agg [] := by
  unfold setF; split <;> rfl
theorem setF_some (l : List (List UInt8)) (s : List UInt8) : (setF l s).isSome = hasW l s := by
  unfold setF; cases hasW l s <;> rfl
theorem setF_put (l : List (List UInt8)) (a : List UInt8) : updF (setF l) a (.agg []) = setF (l ++ [a]) := by
  funext s
  unfold updF setF
  by_cases h : s = a
  · subst h
    rw [if_pos rfl, if_pos (hasW_mem.2 (by simp))]
  · rw [if_neg h]
    have : hasW (l ++ [a]) s = hasW l s := by
      rw [Bool.eq_iff_iff, hasW_mem, hasW_mem]; simp [h]
    rw [this]
def c_impl_digits : C := (.seq (.ops [⟨(some 2), none, (.mv (.c (.t (.str []))))⟩]) (.seq (.ops [⟨(some 3), none, (.mv (.t 0))⟩, ⟨(some 4), none, (.call (.c (.fn (.func 108) [])) [(.t 3)])⟩, ⟨(some 2), none, (.mv (.t 4))⟩]) .ret))
theorem k_impl_digits : comp Tryd.prog 5 (Tryd.f77.body.getD .skip) = some c_impl_digits := by kernel_rfl

theorem impl_digits (n : Nat) (hn : n < 2 ^ 62)  (σ : Store) (hg : PowAt σ) : ACalls Tryd.prog 77 [.t (.int .i64 ((n : Nat)))] σ fun rr σ' => rr = .t (.str (Lib.decDigits n)) ∧ σ' = σ := by
  refine acalls_of Tryd.func77 (by decide +kernel) (code := Tryd.f77.body.getD .skip) (n := 5) (c := c_impl_digits) (rs := [(.tmp 2)]) rfl rfl k_impl_digits (by kernel_rfl) (by simp) (fun hσ => ?_)
  have hh : True := trivial
  have fin : ∀ {u : V} {τ : Store}, u = .t (.str (Lib.decDigits n)) → u.lt σ.length = true → retV σ.length (fun rr σ' => rr = .t (.str (Lib.decDigits n)) ∧ σ' = σ) (σ ++ τ) (some [u]) := fun h h2 => ret_same rfl hσ h2 ⟨h, rfl⟩
  have fin0 : ∀ {u : V}, u = .t (.str (Lib.decDigits n)) → retV σ.length (fun rr σ' => rr = .t (.str (Lib.decDigits n)) ∧ σ' = σ) σ (some [u]) := fun h => ret_same0 rfl ⟨h, rfl⟩
  simp -implicitDefEqProofs only [c_impl_digits, S0, S1, S2, S3, S4, S5, S6, S7, S8, S9, S10, S11, S12, S13, S14, S15, S16, S17, opv, opvs, eget, env0, setD, lenStr, lenSl, isNilP, isNilS, putAt, if_true, if_false, reduceCtorEq, Nat.reduceLeDiff, Nat.reduceEqDiff, Nat.reduceSub, Nat.reduceMul, Nat.reduceAdd]
  refine call_pure (strconv_Itoa (n : Nat) (by omega) (by omega) _ hg) ?_
  simp -implicitDefEqProofs only [S0, S1, S2, S3, S4, S5, S6, S7, S8, S9, S10, S11, S12, S13, S14, S15, S16, S17, opv, opvs, eget, env0, setD, lenStr, lenSl, isNilP, isNilS, putAt, if_true, if_false, reduceCtorEq, Nat.reduceLeDiff, Nat.reduceEqDiff, Nat.reduceSub, Nat.reduceMul, Nat.reduceAdd]
  have he : Lib.itoa ((n : Nat) : Int) = Lib.decDigits n := by
    unfold Lib.itoa
    rw [if_neg (by omega)]
    simp
  first | exact fin0 (by rw [he]) | exact fin (by rw [he]) rfl

def c_impl_unused : C := (.seq (.ops [⟨(some 4), none, (.mv (.c (.t (.str []))))⟩]) (.seq (.ops [⟨(some 5), none, (.mv (.c (.t (.int .i64 0))))⟩]) (.block 0 (.loop (.seq (.block 1 (.seq (.ops [⟨(some 11), none, (.mv (.t 0))⟩, ⟨(some 12), none, (.mv (.t 5))⟩, ⟨(some 13), none, (.call (.c (.fn (.func 77) [])) [(.t 12)])⟩, ⟨(some 14), none, (.bin .add (.t 11) (.t 13))⟩, ⟨(some 6), none, (.mv (.t 14))⟩]) (.seq (.ops [⟨(some 16), none, (.mv (.t 1))⟩, ⟨(some 17), none, (.mv (.t 6))⟩, ⟨(some 18), none, (.look (.one .str) true (.agg []) (.t 16) (.t 17))⟩, ⟨(some 15), none, (.mv (.t 18))⟩, ⟨(some 19), none, (.extract (.t 15) 0)⟩, ⟨(some 20), none, (.extract (.t 15) 1)⟩, ⟨(some 7), none, (.new [])⟩, ⟨none, none, (.store 0 (.t 7) (.t 19))⟩, ⟨(some 8), none, (.mv (.t 20))⟩]) (.seq (.ops [⟨(some 21), none, (.mv (.t 8))⟩, ⟨(some 22), none, (.un .not (.t 21))⟩]) (.cond (.t 22) (.seq (.ops [⟨(some 23), none, (.mv (.t 6))⟩, ⟨(some 4), none, (.mv (.t 23))⟩]) .ret) .skip))))) (.ops [⟨(some 9), none, (.mv (.t 5))⟩, ⟨(some 10), none, (.bin .add (.t 9) (.c (.t (.int .i64 1))))⟩, ⟨(some 5), none, (.mv (.t 10))⟩]))))))
theorem k_impl_unused : comp Tryd.prog 24 (Tryd.f44.body.getD .skip) = some c_impl_unused := by kernel_rfl

theorem impl_unused (c : List UInt8) (hc : c.length ≤ 1048576) (used : List (List UInt8)) (hu : used.length ≤ 4194304) (id b : Nat) (es : List ME)  (σ : Store) (hg : PowAt σ) (hid : σ[id]? = some (.map b es)) (hm : MapIs κS b es (setF used)) : ACalls Tryd.prog 44 [.t (.str (c)), .map id] σ fun rr σ' => rr = .t (.str (newN c used)) ∧ σ' = σ := by
  refine acalls_of Tryd.func44 (by decide +kernel) (code := Tryd.f44.body.getD .skip) (n := 24) (c := c_impl_unused) (rs := [(.tmp 4)]) rfl rfl k_impl_unused (by kernel_rfl) (by simp) (fun hσ => ?_)
  have hh : True := trivial
  have fin : ∀ {u : V} {τ : Store}, u = .t (.str (newN c used)) → u.lt σ.length = true → retV σ.length (fun rr σ' => rr = .t (.str (newN c used)) ∧ σ' = σ) (σ ++ τ) (some [u]) := fun h h2 => ret_same rfl hσ h2 ⟨h, rfl⟩
  have fin0 : ∀ {u : V}, u = .t (.str (newN c used)) → retV σ.length (fun rr σ' => rr = .t (.str (newN c used)) ∧ σ' = σ) σ (some [u]) := fun h => ret_same0 rfl ⟨h, rfl⟩
  have hkeys := hm.keys (kd := .one .str) (fun a => rfl)
  simp -implicitDefEqProofs only [c_impl_unused, S0, S1, S2, S3, S4, S5, S6, S7, S8, S9, S10, S11, S12, S13, S14, S15, S16, S17, opv, opvs, eget, env0, setD, lenStr, lenSl, isNilP, isNilS, putAt, if_true, if_false, reduceCtorEq, Nat.reduceLeDiff, Nat.reduceEqDiff, Nat.reduceSub, Nat.reduceMul, Nat.reduceAdd]
  refine loop_p [5, 0, 1] [0, 1] (fun k : Nat => [(5, .t (.int .i64 (k : Nat)))]) (fun k => ∀ j, j < k → hasW used (nameN c j) = true) (fun k => firstN c used + 1 - k) 0 (by simp) (fun j hj => by omega) rfl ?_
  intro k hk
  have hkl := firstN_le hk
  have hfl := (firstN_free c used).2.1
  have hdl := dec_len k
  have more := i64_succ (show k < 4611686018427387904 by omega)
  have hln : ((c.length + (Lib.decDigits k).length : Nat) : Int) ≤ 9223372036854775807 := by omega
  have hlk := hm.look2 (.agg []) (nameN c k)
  rw [setF_get, setF_some] at hlk
  simp only [nameN] at hlk
  simp -implicitDefEqProofs only [keep, S0, S1, S2, S3, S4, S5, S6, S7, S8, S9, S10, S11, S12, S13, S14, S15, S16, S17, opv, opvs, eget, env0, setD, lenStr, lenSl, isNilP, isNilS, putAt, if_true, if_false, reduceCtorEq, Nat.reduceLeDiff, Nat.reduceEqDiff, Nat.reduceSub, Nat.reduceMul, Nat.reduceAdd]
  refine call_pure (impl_digits k (by omega) _ hg) ?_
  simp -implicitDefEqProofs only [hln, hid, hkeys, hlk, S0, S1, S2, S3, S4, S5, S6, S7, S8, S9, S10, S11, S12, S13, S14, S15, S16, S17, opv, opvs, eget, env0, setD, lenStr, lenSl, isNilP, isNilS, putAt, if_true, if_false, reduceCtorEq, Nat.reduceLeDiff, Nat.reduceEqDiff, Nat.reduceSub, Nat.reduceMul, Nat.reduceAdd]
  have hidl : id < σ.length := (List.getElem?_eq_some_iff.1 hid).1
  refine cond_split (fun h => ?_) (fun h => ?_)
  · have h' : hasW used (nameN c k) = false := by simpa [nameN] using h
    have hkk := firstN_is hk h'
    simp -implicitDefEqProofs only [S0, S1, S2, S3, S4, S5, S6, S7, S8, S9, S10, S11, S12, S13, S14, S15, S16, S17, opv, opvs, eget, env0, setD, lenStr, lenSl, isNilP, isNilS, putAt, if_true, if_false, reduceCtorEq, Nat.reduceLeDiff, Nat.reduceEqDiff, Nat.reduceSub, Nat.reduceMul, Nat.reduceAdd]
    (with_reducible refine fin ?_ ?_); rotate_left; exact rfl; rw [newN, ← hkk]; rfl
  · have h' : hasW used (nameN c k) = true := by simpa [nameN] using h
    simp -implicitDefEqProofs only [more, S0, S1, S2, S3, S4, S5, S6, S7, S8, S9, S10, S11, S12, S13, S14, S15, S16, S17, opv, opvs, eget, env0, setD, lenStr, lenSl, isNilP, isNilS, putAt, if_true, if_false, reduceCtorEq, Nat.reduceLeDiff, Nat.reduceEqDiff, Nat.reduceSub, Nat.reduceMul, Nat.reduceAdd]
    refine lk_p (k + 1) (by simp) (by simp) hσ rfl (by omega) (fun j hj => ?_) (by simp [ltE, keep, eget, V.lt, hidl]) rfl
    rcases Nat.lt_or_ge j k with g | g
    · exact hk j g
    · rw [show j = k by omega]; exact h'

structure Gu where
  k : Nat
  b1 : Nat
  m1 : List ME
  b2 : Nat
  m2 : List ME
theorem setF_app (l : List (List UInt8)) {k : Nat} {x : List UInt8} (h : l[k]? = some x) : updF (setF (l.take k)) x (.agg []) = setF (l.take (k + 1)) := by
  rw [setF_put, take_of h]

def c_impl_GateUncovered : C := (.seq (.ops [⟨(some 5), none, (.box (.t 2))⟩, ⟨(some 6), none, (.new [(.t (.int .i64 0)), (.t (.str [])), (.t (.str [])), (.t (.str []))])⟩, ⟨(some 7), none, (.mv (.c (.t (.bool false))))⟩]) (.seq (.seq (.ops [⟨(some 16), none, (.mv (.t 0))⟩, ⟨(some 17), none, (.mv (.t 1))⟩, ⟨(some 18), none, (.load (some 4) (.t 5))⟩, ⟨(some 19), none, (.call (.c (.fn (.func 42) [])) [(.t 16), (.t 17), (.t 18)])⟩, ⟨(some 20), none, (.un .not (.t 19))⟩]) (.cond (.t 20) (.seq (.ops [⟨(some 21), none, (.build [(.t (.int .i64 0)), (.t (.str [])), (.t (.str [])), (.t (.str []))] [])⟩, ⟨none, none, (.store 4 (.t 6) (.t 21))⟩, ⟨(some 7), none, (.mv (.c (.t (.bool false))))⟩]) .ret) .skip)) (.seq (.ops [⟨(some 22), none, (.mv (.t 0))⟩, ⟨(some 23), none, (.mv (.t 1))⟩, ⟨(some 24), none, (.load (some 4) (.t 5))⟩, ⟨(some 25), none, (.call (.c (.fn (.func 43) [])) [(.t 22), (.t 23), (.t 24)])⟩, ⟨(some 8), none, (.mv (.t 25))⟩]) (.seq (.seq (.ops [⟨(some 26), none, (.mv (.t 8))⟩, ⟨(some 27), none, (.bin .eql (.t 26) (.c (.t (.int .i64 0))))⟩]) (.cond (.t 27) (.seq (.ops [⟨(some 28), none, (.build [(.t (.int .i64 0)), (.t (.str [])), (.t (.str [])), (.t (.str []))] [])⟩, ⟨none, none, (.store 4 (.t 6) (.t 28))⟩, ⟨(some 7), none, (.mv (.c (.t (.bool false))))⟩]) .ret) .skip)) (.seq (.ops [⟨(some 29), none, (.mv (.t 8))⟩, ⟨(some 30), none, (.fieldAddr 1 (.t 5))⟩, ⟨(some 31), none, (.load none (.t 30))⟩, ⟨(some 32), none, (.fieldAddr 2 (.t 5))⟩, ⟨(some 33), none, (.load none (.t 32))⟩, ⟨(some 34), none, (.fieldAddr 3 (.t 5))⟩, ⟨(some 35), none, (.load none (.t 34))⟩, ⟨(some 36), none, (.build [(.t (.int .i64 0)), (.t (.str [])), (.t (.str [])), (.t (.str []))] [⟨0, ⟨1, (.t 29)⟩⟩, ⟨1, ⟨1, (.t 31)⟩⟩, ⟨2, ⟨1, (.t 33)⟩⟩, ⟨3, ⟨1, (.t 35)⟩⟩])⟩, ⟨(some 9), none, (.new [(.t (.int .i64 0)), (.t (.str [])), (.t (.str [])), (.t (.str []))])⟩, ⟨none, none, (.store 4 (.t 9) (.t 36))⟩]) (.seq (.ops [⟨(some 37), none, .mkMap⟩, ⟨(some 10), none, (.mv (.t 37))⟩]) (.seq (.ops [⟨(some 38), none, .mkMap⟩, ⟨(some 11), none, (.mv (.t 38))⟩]) (.seq (.seq (.ops [⟨(some 39), none, (.mv (.t 1))⟩, ⟨(some 40), none, (.len false (.t 39))⟩, ⟨(some 41), none, (.mv (.c (.t (.int .i64 0))))⟩]) (.block 0 (.loop (.seq (.ops [⟨(some 42), none, (.bin .lss (.t 41) (.t 40))⟩]) (.seq (.cond (.t 42) .skip (.exit 0)) (.seq (.block 1 (.seq (.ops [⟨(some 43), none, (.indexAddr 4 (.t 39) (.t 41))⟩, ⟨(some 44), none, (.load (some 4) (.t 43))⟩, ⟨(some 13), none, (.new [.nils, (.t (.str [])), (.t (.str [])), (.t (.str []))])⟩, ⟨none, none, (.store 4 (.t 13) (.t 44))⟩]) (.seq (.ops [⟨(some 45), none, (.mv (.t 10))⟩, ⟨(some 46), none, (.fieldAddr 1 (.t 13))⟩, ⟨(some 47), none, (.load none (.t 46))⟩, ⟨(some 48), none, (.build [] [])⟩, ⟨none, none, (.mapUp (.one .str) (.t 45) (.t 47) (.t 48))⟩]) (.ops [⟨(some 49), none, (.mv (.t 11))⟩, ⟨(some 50), none, (.fieldAddr 2 (.t 13))⟩, ⟨(some 51), none, (.load none (.t 50))⟩, ⟨(some 52), none, (.build [] [])⟩, ⟨none, none, (.mapUp (.one .str) (.t 49) (.t 51) (.t 52))⟩])))) (.ops [⟨(some 53), none, (.bin .add (.t 41) (.c (.t (.int .i64 1))))⟩, ⟨(some 41), none, (.mv (.t 53))⟩]))))))) (.seq (.seq (.ops [⟨(some 54), none, (.mv (.t 0))⟩, ⟨(some 55), none, (.len false (.t 54))⟩, ⟨(some 56), none, (.mv (.c (.t (.int .i64 0))))⟩]) (.block 2 (.loop (.seq (.ops [⟨(some 57), none, (.bin .lss (.t 56) (.t 55))⟩]) (.seq (.cond (.t 57) .skip (.exit 2)) (.seq (.block 3 (.seq (.ops [⟨(some 58), none, (.indexAddr 2 (.t 54) (.t 56))⟩, ⟨(some 59), none, (.load (some 2) (.t 58))⟩, ⟨(some 15), none, (.new [(.t (.str [])), (.t (.str []))])⟩, ⟨none, none, (.store 2 (.t 15) (.t 59))⟩]) (.ops [⟨(some 60), none, (.mv (.t 11))⟩, ⟨(some 61), none, (.fieldAddr 0 (.t 15))⟩, ⟨(some 62), none, (.load none (.t 61))⟩, ⟨(some 63), none, (.build [] [])⟩, ⟨none, none, (.mapUp (.one .str) (.t 60) (.t 62) (.t 63))⟩]))) (.ops [⟨(some 64), none, (.bin .add (.t 56) (.c (.t (.int .i64 1))))⟩, ⟨(some 56), none, (.mv (.t 64))⟩]))))))) (.seq (.seq (.ops [⟨(some 65), none, (.fieldAddr 1 (.t 9))⟩, ⟨(some 66), none, (.load none (.t 65))⟩, ⟨(some 67), none, (.bin .eql (.t 66) (.c (.t (.str []))))⟩]) (.cond (.t 67) (.ops [⟨(some 68), none, (.mv (.t 10))⟩, ⟨(some 69), none, (.call (.c (.fn (.func 44) [])) [(.c (.t (.str [107]))), (.t 68)])⟩, ⟨(some 70), none, (.fieldAddr 1 (.t 9))⟩, ⟨none, none, (.store 1 (.t 70) (.t 69))⟩]) .skip)) (.seq (.seq (.ops [⟨(some 71), none, (.fieldAddr 2 (.t 9))⟩, ⟨(some 72), none, (.load none (.t 71))⟩, ⟨(some 73), none, (.bin .eql (.t 72) (.c (.t (.str []))))⟩]) (.cond (.t 73) (.ops [⟨(some 74), none, (.mv (.t 11))⟩, ⟨(some 75), none, (.call (.c (.fn (.func 44) [])) [(.c (.t (.str [116]))), (.t 74)])⟩, ⟨(some 76), none, (.fieldAddr 2 (.t 9))⟩, ⟨none, none, (.store 1 (.t 76) (.t 75))⟩]) .skip)) (.seq (.ops [⟨(some 77), none, (.load (some 4) (.t 9))⟩, ⟨none, none, (.store 4 (.t 6) (.t 77))⟩, ⟨(some 7), none, (.mv (.c (.t (.bool true))))⟩]) .ret))))))))))))
theorem k_impl_GateUncovered : comp Tryd.prog 78 (Tryd.f14.body.getD .skip) = some c_impl_GateUncovered := by kernel_rfl

theorem impl_GateUncovered (tm : List GateTeam) (ht : GateTeam.OkS tm) (rules : List GateRule) (hu : GateRule.OkS rules) (r : GateRule) (hr : r.Ok)  (σ : Store) (hg : PowAt σ) : ACalls Tryd.prog 14 [.t (tGateTeamS tm), .t (tGateRuleS rules), .agg (r.vs)] σ fun rr σ' => rr = uncV tm rules r ∧ σ' = σ := by
  refine acalls_of Tryd.func14 (by decide +kernel) (code := Tryd.f14.body.getD .skip) (n := 78) (c := c_impl_GateUncovered) (rs := [(.cell 6 (some 4)), (.tmp 7)]) rfl rfl k_impl_GateUncovered (by kernel_rfl) (by simp) (fun hσ => ?_)
  have hh : True := trivial
  have fin : ∀ {u : List V} {τ : Store}, mkRes u = uncV tm rules r → (mkRes u).lt σ.length = true → retV σ.length (fun rr σ' => rr = uncV tm rules r ∧ σ' = σ) (σ ++ τ) (some u) := fun h h2 => ret_same rfl hσ h2 ⟨h, rfl⟩
  have fin0 : ∀ {u : List V}, mkRes u = uncV tm rules r → retV σ.length (fun rr σ' => rr = uncV tm rules r ∧ σ' = σ) σ (some u) := fun h => ret_same0 rfl ⟨h, rfl⟩
  have y1 := hu.1
  have y2 := ht.1
  simp -implicitDefEqProofs only [c_impl_GateUncovered, GateRule.vs, tGateTeamS, tGateRuleS, List.length_map, S0, S1, S2, S3, S4, S5, S6, S7, S8, S9, S10, S11, S12, S13, S14, S15, S16, S17, opv, opvs, eget, env0, setD, lenStr, lenSl, isNilP, isNilS, putAt, if_true, if_false, reduceCtorEq, Nat.reduceLeDiff, Nat.reduceEqDiff, Nat.reduceSub, Nat.reduceMul, Nat.reduceAdd]
  have c1 := impl_rulesOk tm ht rules hu r hr
  simp only [GateRule.vs, tGateTeamS, tGateRuleS] at c1
  refine call_pure (c1 _) ?_
  have hz : zAct = [.t (.int .i64 0), .t (.str []), .t (.str []), .t (.str [])] := rfl
  rcases hv : allRules tm rules r with _ | _
  · have hn : uncB tm rules r = false := by rw [uncB, hv]; rfl
    simp -implicitDefEqProofs only [hv, Bool.not_false, cond_t, cond_f, S0, S1, S2, S3, S4, S5, S6, S7, S8, S9, S10, S11, S12, S13, S14, S15, S16, S17, opv, opvs, eget, env0, setD, lenStr, lenSl, isNilP, isNilS, putAt, if_true, if_false, reduceCtorEq, Nat.reduceLeDiff, Nat.reduceEqDiff, Nat.reduceSub, Nat.reduceMul, Nat.reduceAdd]
    first | exact fin0 (unc_no hn).symm | exact fin (unc_no hn).symm rfl
  simp -implicitDefEqProofs only [hv, Bool.not_true, cond_t, cond_f, S0, S1, S2, S3, S4, S5, S6, S7, S8, S9, S10, S11, S12, S13, S14, S15, S16, S17, opv, opvs, eget, env0, setD, lenStr, lenSl, isNilP, isNilS, putAt, if_true, if_false, reduceCtorEq, Nat.reduceLeDiff, Nat.reduceEqDiff, Nat.reduceSub, Nat.reduceMul, Nat.reduceAdd]
  have c2 := impl_bare tm ht.1 rules hu r hr (verbs_16 (rules := rules) (tm := tm) hv)
  simp only [GateRule.vs, tGateTeamS, tGateRuleS] at c2
  refine call_pure (c2 _) ?_
  simp -implicitDefEqProofs only [S0, S1, S2, S3, S4, S5, S6, S7, S8, S9, S10, S11, S12, S13, S14, S15, S16, S17, opv, opvs, eget, env0, setD, lenStr, lenSl, isNilP, isNilS, putAt, if_true, if_false, reduceCtorEq, Nat.reduceLeDiff, Nat.reduceEqDiff, Nat.reduceSub, Nat.reduceMul, Nat.reduceAdd]
  rcases hz0 : (lackOf tm rules r r.Verbs == 0) with _ | _
  rotate_left
  · have hn : uncB tm rules r = false := by rw [uncB, hv, hz0]; rfl
    simp -implicitDefEqProofs only [hz0, cond_t, cond_f, S0, S1, S2, S3, S4, S5, S6, S7, S8, S9, S10, S11, S12, S13, S14, S15, S16, S17, opv, opvs, eget, env0, setD, lenStr, lenSl, isNilP, isNilS, putAt, if_true, if_false, reduceCtorEq, Nat.reduceLeDiff, Nat.reduceEqDiff, Nat.reduceSub, Nat.reduceMul, Nat.reduceAdd]
    first | exact fin0 (unc_no hn).symm | exact fin (unc_no hn).symm rfl
  have hok : uncB tm rules r = true := by rw [uncB, hv, hz0]; rfl
  have hval := unc_ok hok
  simp -implicitDefEqProofs only [hz0, cond_t, cond_f, S0, S1, S2, S3, S4, S5, S6, S7, S8, S9, S10, S11, S12, S13, S14, S15, S16, S17, opv, opvs, eget, env0, setD, lenStr, lenSl, isNilP, isNilS, putAt, if_true, if_false, reduceCtorEq, Nat.reduceLeDiff, Nat.reduceEqDiff, Nat.reduceSub, Nat.reduceMul, Nat.reduceAdd]
  obtain ⟨actV, hact⟩ : ∃ l : List V, l = [.t (.int .i64 (lackOf tm rules r r.Verbs)), .t (.str r.Kind), .t (.str r.Team), .t (.str r.Prefix)] := ⟨_, rfl⟩
  refine loop_s [41, 0, 6, 9, 10, 11, 39, 40] [0, 6, 9, 10, 11, 39, 40] (fun g : Gu => [(41, .t (.int .i64 (g.k : Nat)))]) (fun g => σ ++ [.box r.vs, .box zAct, .box actV, .map g.b1 g.m1, .map g.b2 g.m2]) (fun g => g.k ≤ rules.length ∧ MapIs κS g.b1 g.m1 (setF ((kindsR rules).take g.k)) ∧ MLt g.m1 ∧ MapIs κS g.b2 g.m2 (setF ((rules.map GateRule.Team).take g.k)) ∧ MLt g.m2) (fun g => rules.length - g.k) ⟨0, 0, [], 0, []⟩ (σ.length + 5) (fun k => by simp) (by simp) ⟨Nat.zero_le _, MapIs.nil, MLt.nil, MapIs.nil, MLt.nil⟩ (by simp [zAct, hact]) rfl ?_
  rintro ⟨k, b1, m1, b2, m2⟩ ⟨hk, hm1, ml1, hm2, ml2⟩
  have hk1 := hm1.keys (kd := .one .str) (fun a => rfl)
  have hk2 := hm2.keys (kd := .one .str) (fun a => rfl)
  simp -implicitDefEqProofs only [keep, List.length_map, S0, S1, S2, S3, S4, S5, S6, S7, S8, S9, S10, S11, S12, S13, S14, S15, S16, S17, opv, opvs, eget, env0, setD, lenStr, lenSl, isNilP, isNilS, putAt, if_true, if_false, reduceCtorEq, Nat.reduceLeDiff, Nat.reduceEqDiff, Nat.reduceSub, Nat.reduceMul, Nat.reduceAdd]
  refine cond_split (fun h1 => ?_) (fun h1 => ?_)
  · obtain ⟨x, hx, hlt⟩ := at_of h1
    have more := i64_succ (show k < 4611686018427387904 by omega)
    have e1 : (kindsR rules)[k]? = some x.Kind := by rw [kindsR, List.getElem?_map, hx]; rfl
    have e2 : (rules.map GateRule.Team)[k]? = some x.Team := by rw [List.getElem?_map, hx]; rfl
    have p1 := hm1.put keyOf_str x.Kind (.agg [])
    have p2 := hm2.put keyOf_str x.Team (.agg [])
    rw [setF_app _ e1] at p1
    rw [setF_app _ e2] at p2
    simp -implicitDefEqProofs only [hx, GateRule.ts, nat_nn, Nat.zero_le, List.getElem?_map, Option.map_some, List.length_map, more, hk1, hk2, S0, S1, S2, S3, S4, S5, S6, S7, S8, S9, S10, S11, S12, S13, S14, S15, S16, S17, opv, opvs, eget, env0, setD, lenStr, lenSl, isNilP, isNilS, putAt, if_true, if_false, reduceCtorEq, Nat.reduceLeDiff, Nat.reduceEqDiff, Nat.reduceSub, Nat.reduceMul, Nat.reduceAdd]
    refine lk_s (τ := [_]) ⟨k + 1, clkM (κS x.Kind) b1 m1, putM (κS x.Kind) (.agg []) b1 m1, clkM (κS x.Team) b2 m2, putM (κS x.Team) (.agg []) b2 m2⟩ (by simp) (by simp) (by rw [List.append_assoc]; rfl) (by simp only; omega) ⟨by simp only; omega, p1, ml1.put _ rfl rfl, p2, ml2.put _ rfl rfl⟩ ?_ (by simp [ltE, keep, eget, V.lt]) rfl
    rw [q_ltσ_app, ltσ_mono (by omega) hσ]
    simp only [ltσ, List.all_cons, List.all_nil, Bool.and_true, Bool.true_and, Bool.and_eq_true]
    exact ⟨by rfl, by rfl, by subst hact; rfl, (ml1.put _ rfl rfl).lt _ _, (ml2.put _ rfl rfl).lt _ _⟩
  have hkk := end_of h1 hk
  subst hkk
  have q1 : (kindsR rules).take rules.length = kindsR rules := by rw [List.take_of_length_le (by simp [kindsR])]
  have q2 : (rules.map GateRule.Team).take rules.length = rules.map GateRule.Team := by rw [List.take_of_length_le (by simp)]
  rw [q1] at hm1
  rw [q2] at hm2
  simp -implicitDefEqProofs only [S0, S1, S2, S3, S4, S5, S6, S7, S8, S9, S10, S11, S12, S13, S14, S15, S16, S17, opv, opvs, eget, env0, setD, lenStr, lenSl, isNilP, isNilS, putAt, if_true, if_false, reduceCtorEq, Nat.reduceLeDiff, Nat.reduceEqDiff, Nat.reduceSub, Nat.reduceMul, Nat.reduceAdd]
  have tl : (teamsR rules tm).length = rules.length + tm.length := by simp [teamsR]
  have t0 : (teamsR rules tm).take (rules.length + 0) = rules.map GateRule.Team := by rw [teamsR, Nat.add_zero, List.take_left' (by simp)]
  obtain ⟨M1, B1, hM1, hB1⟩ : ∃ M B, M = m1 ∧ B = b1 := ⟨_, _, rfl, rfl⟩
  refine loop_s [56, 6, 9, 10, 11, 54, 55] [6, 9, 10, 11, 54, 55] (fun g : Gu => [(56, .t (.int .i64 (g.k : Nat)))]) (fun g => σ ++ [.box r.vs, .box zAct, .box actV, .map g.b1 g.m1, .map g.b2 g.m2]) (fun g => g.k ≤ tm.length ∧ g.b1 = b1 ∧ g.m1 = m1 ∧ MapIs κS g.b2 g.m2 (setF ((teamsR rules tm).take (rules.length + g.k))) ∧ MLt g.m2) (fun g => tm.length - g.k) ⟨0, b1, m1, b2, m2⟩ (σ.length + 5) (fun k => by simp) (by simp) ⟨Nat.zero_le _, rfl, rfl, by simp only; rw [t0]; exact hm2, ml2⟩ rfl rfl ?_
  clear hk hk2
  rintro ⟨k, b1', m1', b3, m3⟩ ⟨hk, g1, g2, hm3, ml3⟩
  simp only at g1 g2
  subst g1 g2
  have hk2 := hm3.keys (kd := .one .str) (fun a => rfl)
  simp -implicitDefEqProofs only [keep, List.length_map, S0, S1, S2, S3, S4, S5, S6, S7, S8, S9, S10, S11, S12, S13, S14, S15, S16, S17, opv, opvs, eget, env0, setD, lenStr, lenSl, isNilP, isNilS, putAt, if_true, if_false, reduceCtorEq, Nat.reduceLeDiff, Nat.reduceEqDiff, Nat.reduceSub, Nat.reduceMul, Nat.reduceAdd]
  refine cond_split (fun h1 => ?_) (fun h1 => ?_)
  · obtain ⟨x, hx, hlt⟩ := at_of h1
    have more := i64_succ (show k < 4611686018427387904 by omega)
    have e2 : (teamsR rules tm)[rules.length + k]? = some x.Name := by rw [teamsR, List.getElem?_append_right (by simp), List.length_map, Nat.add_sub_cancel_left, List.getElem?_map, hx]; rfl
    have p2 := hm3.put keyOf_str x.Name (.agg [])
    rw [setF_app _ e2] at p2
    simp -implicitDefEqProofs only [hx, GateTeam.ts, nat_nn, Nat.zero_le, List.getElem?_map, Option.map_some, List.length_map, more, hk2, S0, S1, S2, S3, S4, S5, S6, S7, S8, S9, S10, S11, S12, S13, S14, S15, S16, S17, opv, opvs, eget, env0, setD, lenStr, lenSl, isNilP, isNilS, putAt, if_true, if_false, reduceCtorEq, Nat.reduceLeDiff, Nat.reduceEqDiff, Nat.reduceSub, Nat.reduceMul, Nat.reduceAdd]
    refine lk_s (τ := [_]) ⟨k + 1, b1', m1', clkM (κS x.Name) b3 m3, putM (κS x.Name) (.agg []) b3 m3⟩ (by simp) (by simp) (by rw [List.append_assoc]; rfl) (by simp only; omega) ⟨by simp only; omega, rfl, rfl, p2, ml3.put _ rfl rfl⟩ ?_ (by simp [ltE, keep, eget, V.lt]) rfl
    rw [q_ltσ_app, ltσ_mono (by omega) hσ]
    simp only [ltσ, List.all_cons, List.all_nil, Bool.and_true, Bool.true_and, Bool.and_eq_true]
    exact ⟨by rfl, by rfl, by subst hact; rfl, ml1.lt _ _, (ml3.put _ rfl rfl).lt _ _⟩
  have hkk := end_of h1 hk
  subst hkk
  have q3 : (teamsR rules tm).take (rules.length + tm.length) = teamsR rules tm := by rw [List.take_of_length_le (by omega)]
  rw [q3] at hm3
  subst hact
  simp -implicitDefEqProofs only [S0, S1, S2, S3, S4, S5, S6, S7, S8, S9, S10, S11, S12, S13, S14, S15, S16, S17, opv, opvs, eget, env0, setD, lenStr, lenSl, isNilP, isNilS, putAt, if_true, if_false, reduceCtorEq, Nat.reduceLeDiff, Nat.reduceEqDiff, Nat.reduceSub, Nat.reduceMul, Nat.reduceAdd]
  have hkn := fun s hs (h : s[σ.length + 3]? = some _) => impl_unused [107] (by simp) (kindsR rules) (by rw [kindsR, List.length_map]; omega) (σ.length + 3) b1' m1' s hs h hm1
  have htn := fun s hs (h : s[σ.length + 4]? = some _) => impl_unused [116] (by simp) (teamsR rules tm) (by omega) (σ.length + 4) b3 m3 s hs h hm3
  refine cond_split (fun h => ?_) (fun h => ?_)
  · have hke : r.Kind = [] := by simpa using h
    rw [if_pos hke] at hval
    simp -implicitDefEqProofs only [hz, List.drop_succ_cons, List.drop_zero, List.drop_nil, S0, S1, S2, S3, S4, S5, S6, S7, S8, S9, S10, S11, S12, S13, S14, S15, S16, S17, opv, opvs, eget, env0, setD, lenStr, lenSl, isNilP, isNilS, putAt, if_true, if_false, reduceCtorEq, Nat.reduceLeDiff, Nat.reduceEqDiff, Nat.reduceSub, Nat.reduceMul, Nat.reduceAdd]
    refine call_pure (hkn _ (hg.app _) (by simp)) ?_
    simp -implicitDefEqProofs only [hz, List.drop_succ_cons, List.drop_zero, List.drop_nil, S0, S1, S2, S3, S4, S5, S6, S7, S8, S9, S10, S11, S12, S13, S14, S15, S16, S17, opv, opvs, eget, env0, setD, lenStr, lenSl, isNilP, isNilS, putAt, if_true, if_false, reduceCtorEq, Nat.reduceLeDiff, Nat.reduceEqDiff, Nat.reduceSub, Nat.reduceMul, Nat.reduceAdd]
    refine cond_split (fun h => ?_) (fun h => ?_)
    · have hte : r.Team = [] := by simpa using h
      rw [if_pos hte] at hval
      simp -implicitDefEqProofs only [hz, List.drop_succ_cons, List.drop_zero, List.drop_nil, S0, S1, S2, S3, S4, S5, S6, S7, S8, S9, S10, S11, S12, S13, S14, S15, S16, S17, opv, opvs, eget, env0, setD, lenStr, lenSl, isNilP, isNilS, putAt, if_true, if_false, reduceCtorEq, Nat.reduceLeDiff, Nat.reduceEqDiff, Nat.reduceSub, Nat.reduceMul, Nat.reduceAdd]
      refine call_pure (htn _ (hg.app _) (by simp)) ?_
      simp -implicitDefEqProofs only [hz, List.drop_succ_cons, List.drop_zero, List.drop_nil, S0, S1, S2, S3, S4, S5, S6, S7, S8, S9, S10, S11, S12, S13, S14, S15, S16, S17, opv, opvs, eget, env0, setD, lenStr, lenSl, isNilP, isNilS, putAt, if_true, if_false, reduceCtorEq, Nat.reduceLeDiff, Nat.reduceEqDiff, Nat.reduceSub, Nat.reduceMul, Nat.reduceAdd]
      (with_reducible refine fin ?_ ?_); rotate_left; exact rfl; rw [hval]; rfl
    · have hte : ¬ r.Team = [] := by simpa using h
      rw [if_neg hte] at hval
      simp -implicitDefEqProofs only [hz, List.drop_succ_cons, List.drop_zero, List.drop_nil, S0, S1, S2, S3, S4, S5, S6, S7, S8, S9, S10, S11, S12, S13, S14, S15, S16, S17, opv, opvs, eget, env0, setD, lenStr, lenSl, isNilP, isNilS, putAt, if_true, if_false, reduceCtorEq, Nat.reduceLeDiff, Nat.reduceEqDiff, Nat.reduceSub, Nat.reduceMul, Nat.reduceAdd]
      (with_reducible refine fin ?_ ?_); rotate_left; exact rfl; rw [hval]; rfl
  · have hke : ¬ r.Kind = [] := by simpa using h
    rw [if_neg hke] at hval
    simp -implicitDefEqProofs only [hz, List.drop_succ_cons, List.drop_zero, List.drop_nil, S0, S1, S2, S3, S4, S5, S6, S7, S8, S9, S10, S11, S12, S13, S14, S15, S16, S17, opv, opvs, eget, env0, setD, lenStr, lenSl, isNilP, isNilS, putAt, if_true, if_false, reduceCtorEq, Nat.reduceLeDiff, Nat.reduceEqDiff, Nat.reduceSub, Nat.reduceMul, Nat.reduceAdd]
    refine cond_split (fun h => ?_) (fun h => ?_)
    · have hte : r.Team = [] := by simpa using h
      rw [if_pos hte] at hval
      simp -implicitDefEqProofs only [hz, List.drop_succ_cons, List.drop_zero, List.drop_nil, S0, S1, S2, S3, S4, S5, S6, S7, S8, S9, S10, S11, S12, S13, S14, S15, S16, S17, opv, opvs, eget, env0, setD, lenStr, lenSl, isNilP, isNilS, putAt, if_true, if_false, reduceCtorEq, Nat.reduceLeDiff, Nat.reduceEqDiff, Nat.reduceSub, Nat.reduceMul, Nat.reduceAdd]
      refine call_pure (htn _ (hg.app _) (by simp)) ?_
      simp -implicitDefEqProofs only [hz, List.drop_succ_cons, List.drop_zero, List.drop_nil, S0, S1, S2, S3, S4, S5, S6, S7, S8, S9, S10, S11, S12, S13, S14, S15, S16, S17, opv, opvs, eget, env0, setD, lenStr, lenSl, isNilP, isNilS, putAt, if_true, if_false, reduceCtorEq, Nat.reduceLeDiff, Nat.reduceEqDiff, Nat.reduceSub, Nat.reduceMul, Nat.reduceAdd]
      (with_reducible refine fin ?_ ?_); rotate_left; exact rfl; rw [hval]; rfl
    · have hte : ¬ r.Team = [] := by simpa using h
      rw [if_neg hte] at hval
      simp -implicitDefEqProofs only [hz, List.drop_succ_cons, List.drop_zero, List.drop_nil, S0, S1, S2, S3, S4, S5, S6, S7, S8, S9, S10, S11, S12, S13, S14, S15, S16, S17, opv, opvs, eget, env0, setD, lenStr, lenSl, isNilP, isNilS, putAt, if_true, if_false, reduceCtorEq, Nat.reduceLeDiff, Nat.reduceEqDiff, Nat.reduceSub, Nat.reduceMul, Nat.reduceAdd]
      (with_reducible refine fin ?_ ?_); rotate_left; exact rfl; rw [hval]; rfl

end Go.Proofs.YtcjchimenfadkaaDoor.W
