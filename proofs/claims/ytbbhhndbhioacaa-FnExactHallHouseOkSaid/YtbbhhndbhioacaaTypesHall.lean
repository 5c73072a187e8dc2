/- What the laws' own helpers do with these structs: sizes, copies, comparing (printed by laws.py). Conditions: none. -/
/- The program's structs as Lean structures, their trees (printed by types.py). Conditions: none. -/
import Derived.Test.YtbbhhndbhioacaaAb3
import Derived.IntWalk
import Derived.Test.YtbbhhndbhioacaaProg
import Derived.KernelRfl
set_option linter.unusedSimpArgs false
set_option linter.unusedVariables false
set_option linter.defProp false

section
open Go Go.Ab
set_option maxHeartbeats 2000000
namespace Go.Proofs.Ytbbhhndbhioacaa.W
theorem own_app4 {σ : Store} {a0 a1 a2 a3 : T} {u0 u1 u2 u3 : V} {ts : List T} {us : List V} {is js : List Nat} (h : OwnL σ [a0, a1, a2, a3] [u0, u1, u2, u3] is) (k : OwnL σ ts us js) : OwnL σ (a0 :: a1 :: a2 :: a3 :: ts) (u0 :: u1 :: u2 :: u3 :: us) (is ++ js) := OwnL.app h k
theorem list4x {l : List V} (h : l.length = 4) : ∃ u0 u1 u2 u3, l = [u0, u1, u2, u3] := by
  match l, h with
  | [u0, u1, u2, u3], _ => exact ⟨u0, u1, u2, u3, rfl⟩
theorem i_szIntS : Is Try.prog 55 12 [(.tmp 4)] (tSzInt) := ⟨_, _, Try.func55, by decide +kernel, rfl, rfl, by kernel_rfl, rfl⟩
theorem szIntS : SzOk Try.prog 55 (.sl 1 [.int .i64]) := szInt_ok i_szIntS
theorem i_eqIntS : Is Try.prog 58 26 [(.tmp 4)] (tEq1) := ⟨_, _, Try.func58, by decide +kernel, rfl, rfl, by kernel_rfl, rfl⟩
theorem eqIntS : EqOk Try.prog 58 (.sl 1 [.int .i64]) := eqInt_ok i_eqIntS
theorem i_toIntS : Is Try.prog 56 22 [(.tmp 2)] (tTo1 8 [.t (.int .i64 0)]) := ⟨_, _, Try.func56, by decide +kernel, rfl, rfl, by kernel_rfl, rfl⟩
theorem toIntS : ToOk Try.prog 56 (.sl 1 [.int .i64]) := to1_ok 8 [.t (.int .i64 0)] sc_int rfl (by decide) i_toIntS
def shGateTeam : List Sh := [.str, .str]
theorem isGateTeam {ts : List T} (ht : T.isL shGateTeam ts) : ∃ n0 n1, ts = [(.str n0), (.str n1)] ∧ n0.length ≤ maxLen ∧ n1.length ≤ maxLen := by
  simp only [shGateTeam, isL_cons, isL_nil, is_int, is_bool, is_str] at ht
  obtain ⟨_, _, rfl, ⟨n0, rfl, b0⟩, _, _, rfl, ⟨n1, rfl, b1⟩, rfl⟩ := ht
  exact ⟨_, _, rfl, b0, b1⟩
theorem mkGateTeam {n0} {n1} (b0 : n0.length ≤ maxLen) (b1 : n1.length ≤ maxLen) : T.isL shGateTeam [(.str n0), (.str n1)] := by
  simp only [shGateTeam, isL_cons, isL_nil, is_int, is_bool, is_str]
  exact ⟨_, _, rfl, ⟨_, rfl, b0⟩, _, _, rfl, ⟨_, rfl, b1⟩, rfl⟩
theorem sizeGateTeam {n0} {n1} : T.sizeL [(.str n0), (.str n1)] = n0.length + n1.length := by
  simp only [sizeL_cons, sizeL_nil, size_int, size_bool, size_str]
  try omega
def c_laws_szGateTeam : C := (.seq (.ops [⟨(some 2), none, (.box (.t 0))⟩, ⟨(some 4), none, (.mv (.c (.t (.int .i64 0))))⟩]) (.seq (.ops [⟨(some 5), none, (.mv (.t 1))⟩, ⟨(some 6), none, (.fieldAddr 0 (.t 2))⟩, ⟨(some 7), none, (.load none (.t 6))⟩, ⟨(some 8), none, (.len true (.t 7))⟩, ⟨(some 9), none, (.bin .sub (.t 5) (.t 8))⟩, ⟨(some 1), none, (.mv (.t 9))⟩]) (.seq (.seq (.ops [⟨(some 10), none, (.mv (.t 1))⟩, ⟨(some 11), none, (.bin .lss (.t 10) (.c (.t (.int .i64 0))))⟩]) (.cond (.t 11) (.seq (.ops [⟨(some 4), none, (.mv (.c (.t (.int .i64 (-1)))))⟩]) .ret) .skip)) (.seq (.ops [⟨(some 12), none, (.mv (.t 1))⟩, ⟨(some 13), none, (.fieldAddr 1 (.t 2))⟩, ⟨(some 14), none, (.load none (.t 13))⟩, ⟨(some 15), none, (.len true (.t 14))⟩, ⟨(some 16), none, (.bin .sub (.t 12) (.t 15))⟩, ⟨(some 1), none, (.mv (.t 16))⟩]) (.seq (.seq (.ops [⟨(some 17), none, (.mv (.t 1))⟩, ⟨(some 18), none, (.bin .lss (.t 17) (.c (.t (.int .i64 0))))⟩]) (.cond (.t 18) (.seq (.ops [⟨(some 4), none, (.mv (.c (.t (.int .i64 (-1)))))⟩]) .ret) .skip)) (.seq (.ops [⟨(some 19), none, (.mv (.t 1))⟩, ⟨(some 4), none, (.mv (.t 19))⟩]) .ret))))))
theorem k_laws_szGateTeam : comp Try.prog 20 (Try.f41.body.getD .skip) = some c_laws_szGateTeam := by kernel_rfl

theorem szGateTeam : SzLOk Try.prog 41 shGateTeam := by
  rintro ts left σ ht h0 h1
  obtain ⟨n0, n1, rfl, b0, b1⟩ := isGateTeam ht
  refine acalls_of Try.func41 (by decide +kernel) (code := Try.f41.body.getD .skip) (n := 20) (c := c_laws_szGateTeam) (rs := [(.tmp 4)]) rfl rfl k_laws_szGateTeam (by kernel_rfl) (by simp) (fun hσ => ?_)
  try simp only [maxLen] at *
  have fin : ∀ {n : Int} {τ : Store}, n ≤ left → (0 ≤ n → ((n0.length + n1.length : Nat) : Int) + n ≤ left) → retV σ.length (SzR (T.sizeL [(.str n0), (.str n1)]) left σ) (σ ++ τ) (some [.t (.int .i64 n)]) := fun h h' => ret_same rfl hσ rfl ⟨⟨_, rfl, h, fun h0 => by have := h' h0; rw [sizeGateTeam]; exact this⟩, rfl⟩
  have w0 : IntKind.i64.wrap (left - n0.length) = left - n0.length := IntWalk.i64_in _ (by omega)
  simp -implicitDefEqProofs only [c_laws_szGateTeam, w0, S0, S1, S2, S3, S4, S5, S6, S7, S8, S9, S10, S11, S12, S13, S14, S15, opv, opvs, eget, env0, setD, lenStr, lenSl, isNilP, isNilS, putAt, if_true, if_false, reduceCtorEq, Nat.reduceLeDiff, Nat.reduceEqDiff, Nat.reduceSub, Nat.reduceMul, Nat.reduceAdd]
  refine cond_split (fun h => ?_) (fun h => ?_)
  · simp -implicitDefEqProofs only [S0, S1, S2, S3, S4, S5, S6, S7, S8, S9, S10, S11, S12, S13, S14, S15, opv, opvs, eget, env0, setD, lenStr, lenSl, isNilP, isNilS, putAt, if_true, if_false, reduceCtorEq, Nat.reduceLeDiff, Nat.reduceEqDiff, Nat.reduceSub, Nat.reduceMul, Nat.reduceAdd]
    simp only [decide_eq_true_eq] at h
    exact fin (by omega) (by omega)
  simp only [decide_eq_false_iff_not, Int.not_lt] at h
  have w1 : IntKind.i64.wrap ((left - n0.length) - n1.length) = (left - n0.length) - n1.length := IntWalk.i64_in _ (by omega)
  simp -implicitDefEqProofs only [w1, S0, S1, S2, S3, S4, S5, S6, S7, S8, S9, S10, S11, S12, S13, S14, S15, opv, opvs, eget, env0, setD, lenStr, lenSl, isNilP, isNilS, putAt, if_true, if_false, reduceCtorEq, Nat.reduceLeDiff, Nat.reduceEqDiff, Nat.reduceSub, Nat.reduceMul, Nat.reduceAdd]
  refine cond_split (fun h => ?_) (fun h => ?_)
  · simp -implicitDefEqProofs only [S0, S1, S2, S3, S4, S5, S6, S7, S8, S9, S10, S11, S12, S13, S14, S15, opv, opvs, eget, env0, setD, lenStr, lenSl, isNilP, isNilS, putAt, if_true, if_false, reduceCtorEq, Nat.reduceLeDiff, Nat.reduceEqDiff, Nat.reduceSub, Nat.reduceMul, Nat.reduceAdd]
    simp only [decide_eq_true_eq] at h
    exact fin (by omega) (by omega)
  simp only [decide_eq_false_iff_not, Int.not_lt] at h
  simp -implicitDefEqProofs only [S0, S1, S2, S3, S4, S5, S6, S7, S8, S9, S10, S11, S12, S13, S14, S15, opv, opvs, eget, env0, setD, lenStr, lenSl, isNilP, isNilS, putAt, if_true, if_false, reduceCtorEq, Nat.reduceLeDiff, Nat.reduceEqDiff, Nat.reduceSub, Nat.reduceMul, Nat.reduceAdd]
  exact fin (by omega) (fun _ => by omega)
theorem szGateTeam_x {n0} {n1} (left : Int) (σ : Store) (b0 : n0.length ≤ maxLen) (b1 : n1.length ≤ maxLen) (h0 : 0 ≤ left) (h1 : left ≤ 1048576) : ACalls Try.prog 41 [.agg [.t (.str n0), .t (.str n1)], .t (.int .i64 left)] σ (SzR (T.sizeL [(.str n0), (.str n1)]) left σ) := by
  have h := szGateTeam [(.str n0), (.str n1)] left σ (mkGateTeam b0 b1) h0 h1
  exact h
def c_laws_eqGateTeam : C := (.seq (.ops [⟨(some 2), none, (.box (.t 0))⟩, ⟨(some 3), none, (.box (.t 1))⟩, ⟨(some 4), none, (.mv (.c (.t (.bool false))))⟩]) (.seq (.seq (.ops [⟨(some 5), none, (.fieldAddr 0 (.t 2))⟩, ⟨(some 6), none, (.load none (.t 5))⟩, ⟨(some 7), none, (.fieldAddr 0 (.t 3))⟩, ⟨(some 8), none, (.load none (.t 7))⟩, ⟨(some 9), none, (.bin .neq (.t 6) (.t 8))⟩]) (.cond (.t 9) (.seq (.ops [⟨(some 4), none, (.mv (.c (.t (.bool false))))⟩]) .ret) .skip)) (.seq (.seq (.ops [⟨(some 10), none, (.fieldAddr 1 (.t 2))⟩, ⟨(some 11), none, (.load none (.t 10))⟩, ⟨(some 12), none, (.fieldAddr 1 (.t 3))⟩, ⟨(some 13), none, (.load none (.t 12))⟩, ⟨(some 14), none, (.bin .neq (.t 11) (.t 13))⟩]) (.cond (.t 14) (.seq (.ops [⟨(some 4), none, (.mv (.c (.t (.bool false))))⟩]) .ret) .skip)) (.seq (.ops [⟨(some 4), none, (.mv (.c (.t (.bool true))))⟩]) .ret))))
theorem k_laws_eqGateTeam : comp Try.prog 15 (Try.f49.body.getD .skip) = some c_laws_eqGateTeam := by kernel_rfl

theorem eqGateTeam : EqLOk Try.prog 49 shGateTeam := by
  rintro ts σ ht h1
  obtain ⟨n0, n1, rfl, b0, b1⟩ := isGateTeam ht
  rw [sizeGateTeam] at h1
  refine acalls_of Try.func49 (by decide +kernel) (code := Try.f49.body.getD .skip) (n := 15) (c := c_laws_eqGateTeam) (rs := [(.tmp 4)]) rfl rfl k_laws_eqGateTeam (by kernel_rfl) (by simp) (fun hσ => ?_)
  simp -implicitDefEqProofs only [c_laws_eqGateTeam, ne_self, beq_self_eq_true, S0, S1, S2, S3, S4, S5, S6, S7, S8, S9, S10, S11, S12, S13, S14, S15, opv, opvs, eget, env0, setD, lenStr, lenSl, isNilP, isNilS, putAt, if_true, if_false, reduceCtorEq, Nat.reduceLeDiff, Nat.reduceEqDiff, Nat.reduceSub, Nat.reduceMul, Nat.reduceAdd]
  exact ret_same rfl hσ rfl ⟨rfl, rfl⟩
theorem eqGateTeam_x {n0} {n1} (σ : Store) (b0 : n0.length ≤ maxLen) (b1 : n1.length ≤ maxLen) (hz : n0.length + n1.length ≤ 1099511627776) : ACalls Try.prog 49 [.agg [.t (.str n0), .t (.str n1)], .agg [.t (.str n0), .t (.str n1)]] σ (TrueR σ) := by
  have h := eqGateTeam [(.str n0), (.str n1)] σ (mkGateTeam b0 b1) (by rw [sizeGateTeam]; omega)
  exact h
def c_laws_toGateTeam : C := (.seq (.ops [⟨(some 1), none, (.box (.t 0))⟩, ⟨(some 2), none, (.new [(.t (.str [])), (.t (.str []))])⟩]) (.seq (.ops [⟨(some 3), none, (.new [(.t (.str [])), (.t (.str []))])⟩]) (.seq (.ops [⟨(some 4), none, (.fieldAddr 0 (.t 1))⟩, ⟨(some 5), none, (.load none (.t 4))⟩, ⟨(some 6), none, (.fieldAddr 0 (.t 3))⟩, ⟨none, none, (.store 1 (.t 6) (.t 5))⟩]) (.seq (.ops [⟨(some 7), none, (.fieldAddr 1 (.t 1))⟩, ⟨(some 8), none, (.load none (.t 7))⟩, ⟨(some 9), none, (.fieldAddr 1 (.t 3))⟩, ⟨none, none, (.store 1 (.t 9) (.t 8))⟩]) (.seq (.ops [⟨(some 10), none, (.load (some 2) (.t 3))⟩, ⟨none, none, (.store 2 (.t 2) (.t 10))⟩]) .ret)))))
theorem k_laws_toGateTeam : comp Try.prog 11 (Try.f45.body.getD .skip) = some c_laws_toGateTeam := by kernel_rfl

theorem toGateTeam : ToLOk Try.prog 45 shGateTeam := by
  rintro ts σ ht h1
  obtain ⟨n0, n1, rfl, b0, b1⟩ := isGateTeam ht
  rw [sizeGateTeam] at h1
  refine acalls_of Try.func45 (by decide +kernel) (code := Try.f45.body.getD .skip) (n := 11) (c := c_laws_toGateTeam) (rs := [(.cell 2 (some 2))]) rfl rfl k_laws_toGateTeam (by kernel_rfl) (by simp) (fun hσ => ?_)
  simp -implicitDefEqProofs only [c_laws_toGateTeam, S0, S1, S2, S3, S4, S5, S6, S7, S8, S9, S10, S11, S12, S13, S14, S15, opv, opvs, eget, env0, setD, lenStr, lenSl, isNilP, isNilS, putAt, if_true, if_false, reduceCtorEq, Nat.reduceLeDiff, Nat.reduceEqDiff, Nat.reduceSub, Nat.reduceMul, Nat.reduceAdd]
  exact fin_keep (by simp) ⟨_, _, [], rfl, rfl, (OwnL.str (OwnL.str OwnL.nil0)), Wi.nil⟩
theorem toGateTeam_x {n0} {n1} (σ : Store) (b0 : n0.length ≤ maxLen) (b1 : n1.length ≤ maxLen) (hz : n0.length + n1.length ≤ 1048576) : ACalls Try.prog 45 [.agg [.t (.str n0), .t (.str n1)]] σ (ToLR [(.str n0), (.str n1)] σ) := by
  have h := toGateTeam [(.str n0), (.str n1)] σ (mkGateTeam b0 b1) (by rw [sizeGateTeam]; omega)
  exact h
theorem i_szGateTeamS : Is Try.prog 27 27 [(.tmp 4)] (tSzS 2 41) := ⟨_, _, Try.func27, by decide +kernel, rfl, rfl, by kernel_rfl, rfl⟩
theorem szGateTeamS : SzOk Try.prog 27 (.sl 2 shGateTeam) := szS_ok rfl i_szGateTeamS szGateTeam
theorem i_eqGateTeamS : Is Try.prog 35 27 [(.tmp 4)] (tEqS 2 49) := ⟨_, _, Try.func35, by decide +kernel, rfl, rfl, by kernel_rfl, rfl⟩
theorem eqGateTeamS : EqOk Try.prog 35 (.sl 2 shGateTeam) := eqS_ok rfl i_eqGateTeamS eqGateTeam
theorem i_toGateTeamS : Is Try.prog 31 23 [(.tmp 2)] (tToS 2 32 45 [.t (.str []), .t (.str [])]) := ⟨_, _, Try.func31, by decide +kernel, rfl, rfl, by kernel_rfl, rfl⟩
theorem toGateTeamS : ToOk Try.prog 31 (.sl 2 shGateTeam) := toS_ok 32 [.t (.str []), .t (.str [])] rfl (by decide) rfl (by decide) i_toGateTeamS toGateTeam
def shGateRule : List Sh := [.sl 1 [.int .i64], .str, .str, .str]
theorem isGateRule {ts : List T} (ht : T.isL shGateRule ts) : ∃ n0 n1 n2 n3, ts = [n0, (.str n1), (.str n2), (.str n3)] ∧ T.is (.sl 1 [.int .i64]) n0 ∧ n1.length ≤ maxLen ∧ n2.length ≤ maxLen ∧ n3.length ≤ maxLen := by
  simp only [shGateRule, isL_cons, isL_nil, is_int, is_bool, is_str] at ht
  obtain ⟨n0, _, rfl, b0, _, _, rfl, ⟨n1, rfl, b1⟩, _, _, rfl, ⟨n2, rfl, b2⟩, _, _, rfl, ⟨n3, rfl, b3⟩, rfl⟩ := ht
  exact ⟨_, _, _, _, rfl, b0, b1, b2, b3⟩
theorem mkGateRule {n0} {n1} {n2} {n3} (b0 : T.is (.sl 1 [.int .i64]) n0) (b1 : n1.length ≤ maxLen) (b2 : n2.length ≤ maxLen) (b3 : n3.length ≤ maxLen) : T.isL shGateRule [n0, (.str n1), (.str n2), (.str n3)] := by
  simp only [shGateRule, isL_cons, isL_nil, is_int, is_bool, is_str]
  exact ⟨_, _, rfl, b0, _, _, rfl, ⟨_, rfl, b1⟩, _, _, rfl, ⟨_, rfl, b2⟩, _, _, rfl, ⟨_, rfl, b3⟩, rfl⟩
theorem sizeGateRule {n0} {n1} {n2} {n3} : T.sizeL [n0, (.str n1), (.str n2), (.str n3)] = n0.size + n1.length + n2.length + n3.length := by
  simp only [sizeL_cons, sizeL_nil, size_int, size_bool, size_str]
  try omega
def c_laws_szGateRule : C := (.seq (.ops [⟨(some 2), none, (.box (.t 0))⟩, ⟨(some 4), none, (.mv (.c (.t (.int .i64 0))))⟩]) (.seq (.ops [⟨(some 5), none, (.fieldAddr 0 (.t 2))⟩, ⟨(some 6), none, (.load none (.t 5))⟩, ⟨(some 7), none, (.mv (.t 1))⟩, ⟨(some 8), none, (.call (.c (.fn (.func 55) [])) [(.t 6), (.t 7)])⟩, ⟨(some 1), none, (.mv (.t 8))⟩]) (.seq (.seq (.ops [⟨(some 9), none, (.mv (.t 1))⟩, ⟨(some 10), none, (.bin .lss (.t 9) (.c (.t (.int .i64 0))))⟩]) (.cond (.t 10) (.seq (.ops [⟨(some 4), none, (.mv (.c (.t (.int .i64 (-1)))))⟩]) .ret) .skip)) (.seq (.ops [⟨(some 11), none, (.mv (.t 1))⟩, ⟨(some 12), none, (.fieldAddr 1 (.t 2))⟩, ⟨(some 13), none, (.load none (.t 12))⟩, ⟨(some 14), none, (.len true (.t 13))⟩, ⟨(some 15), none, (.bin .sub (.t 11) (.t 14))⟩, ⟨(some 1), none, (.mv (.t 15))⟩]) (.seq (.seq (.ops [⟨(some 16), none, (.mv (.t 1))⟩, ⟨(some 17), none, (.bin .lss (.t 16) (.c (.t (.int .i64 0))))⟩]) (.cond (.t 17) (.seq (.ops [⟨(some 4), none, (.mv (.c (.t (.int .i64 (-1)))))⟩]) .ret) .skip)) (.seq (.ops [⟨(some 18), none, (.mv (.t 1))⟩, ⟨(some 19), none, (.fieldAddr 2 (.t 2))⟩, ⟨(some 20), none, (.load none (.t 19))⟩, ⟨(some 21), none, (.len true (.t 20))⟩, ⟨(some 22), none, (.bin .sub (.t 18) (.t 21))⟩, ⟨(some 1), none, (.mv (.t 22))⟩]) (.seq (.seq (.ops [⟨(some 23), none, (.mv (.t 1))⟩, ⟨(some 24), none, (.bin .lss (.t 23) (.c (.t (.int .i64 0))))⟩]) (.cond (.t 24) (.seq (.ops [⟨(some 4), none, (.mv (.c (.t (.int .i64 (-1)))))⟩]) .ret) .skip)) (.seq (.ops [⟨(some 25), none, (.mv (.t 1))⟩, ⟨(some 26), none, (.fieldAddr 3 (.t 2))⟩, ⟨(some 27), none, (.load none (.t 26))⟩, ⟨(some 28), none, (.len true (.t 27))⟩, ⟨(some 29), none, (.bin .sub (.t 25) (.t 28))⟩, ⟨(some 1), none, (.mv (.t 29))⟩]) (.seq (.seq (.ops [⟨(some 30), none, (.mv (.t 1))⟩, ⟨(some 31), none, (.bin .lss (.t 30) (.c (.t (.int .i64 0))))⟩]) (.cond (.t 31) (.seq (.ops [⟨(some 4), none, (.mv (.c (.t (.int .i64 (-1)))))⟩]) .ret) .skip)) (.seq (.ops [⟨(some 32), none, (.mv (.t 1))⟩, ⟨(some 4), none, (.mv (.t 32))⟩]) .ret))))))))))
theorem k_laws_szGateRule : comp Try.prog 33 (Try.f51.body.getD .skip) = some c_laws_szGateRule := by kernel_rfl

theorem szGateRule : SzLOk Try.prog 51 shGateRule := by
  rintro ts left σ ht h0 h1
  obtain ⟨n0, n1, n2, n3, rfl, b0, b1, b2, b3⟩ := isGateRule ht
  refine acalls_of Try.func51 (by decide +kernel) (code := Try.f51.body.getD .skip) (n := 33) (c := c_laws_szGateRule) (rs := [(.tmp 4)]) rfl rfl k_laws_szGateRule (by kernel_rfl) (by simp) (fun hσ => ?_)
  try simp only [maxLen] at *
  have fin : ∀ {n : Int} {τ : Store}, n ≤ left → (0 ≤ n → ((n0.size + n1.length + n2.length + n3.length : Nat) : Int) + n ≤ left) → retV σ.length (SzR (T.sizeL [n0, (.str n1), (.str n2), (.str n3)]) left σ) (σ ++ τ) (some [.t (.int .i64 n)]) := fun h h' => ret_same rfl hσ rfl ⟨⟨_, rfl, h, fun h0 => by have := h' h0; rw [sizeGateRule]; exact this⟩, rfl⟩
  simp -implicitDefEqProofs only [c_laws_szGateRule, S0, S1, S2, S3, S4, S5, S6, S7, S8, S9, S10, S11, S12, S13, S14, S15, opv, opvs, eget, env0, setD, lenStr, lenSl, isNilP, isNilS, putAt, if_true, if_false, reduceCtorEq, Nat.reduceLeDiff, Nat.reduceEqDiff, Nat.reduceSub, Nat.reduceMul, Nat.reduceAdd]
  refine call_by (by rw [List.append_nil]; exact szIntS n0 left _ b0 (by omega) (by omega)) ?_
  rintro r σ' ⟨⟨m0, rfl, hm0, hs0⟩, rfl⟩
  try simp only [sizeGateRule] at hs0
  simp -implicitDefEqProofs only [S0, S1, S2, S3, S4, S5, S6, S7, S8, S9, S10, S11, S12, S13, S14, S15, opv, opvs, eget, env0, setD, lenStr, lenSl, isNilP, isNilS, putAt, if_true, if_false, reduceCtorEq, Nat.reduceLeDiff, Nat.reduceEqDiff, Nat.reduceSub, Nat.reduceMul, Nat.reduceAdd]
  refine cond_split (fun h => ?_) (fun h => ?_)
  · simp -implicitDefEqProofs only [S0, S1, S2, S3, S4, S5, S6, S7, S8, S9, S10, S11, S12, S13, S14, S15, opv, opvs, eget, env0, setD, lenStr, lenSl, isNilP, isNilS, putAt, if_true, if_false, reduceCtorEq, Nat.reduceLeDiff, Nat.reduceEqDiff, Nat.reduceSub, Nat.reduceMul, Nat.reduceAdd]
    simp only [decide_eq_true_eq] at h
    exact fin (by omega) (by omega)
  simp only [decide_eq_false_iff_not, Int.not_lt] at h
  replace hs0 := hs0 h
  have w1 : IntKind.i64.wrap (m0 - n1.length) = m0 - n1.length := IntWalk.i64_in _ (by omega)
  simp -implicitDefEqProofs only [w1, S0, S1, S2, S3, S4, S5, S6, S7, S8, S9, S10, S11, S12, S13, S14, S15, opv, opvs, eget, env0, setD, lenStr, lenSl, isNilP, isNilS, putAt, if_true, if_false, reduceCtorEq, Nat.reduceLeDiff, Nat.reduceEqDiff, Nat.reduceSub, Nat.reduceMul, Nat.reduceAdd]
  refine cond_split (fun h => ?_) (fun h => ?_)
  · simp -implicitDefEqProofs only [S0, S1, S2, S3, S4, S5, S6, S7, S8, S9, S10, S11, S12, S13, S14, S15, opv, opvs, eget, env0, setD, lenStr, lenSl, isNilP, isNilS, putAt, if_true, if_false, reduceCtorEq, Nat.reduceLeDiff, Nat.reduceEqDiff, Nat.reduceSub, Nat.reduceMul, Nat.reduceAdd]
    simp only [decide_eq_true_eq] at h
    exact fin (by omega) (by omega)
  simp only [decide_eq_false_iff_not, Int.not_lt] at h
  have w2 : IntKind.i64.wrap ((m0 - n1.length) - n2.length) = (m0 - n1.length) - n2.length := IntWalk.i64_in _ (by omega)
  simp -implicitDefEqProofs only [w2, S0, S1, S2, S3, S4, S5, S6, S7, S8, S9, S10, S11, S12, S13, S14, S15, opv, opvs, eget, env0, setD, lenStr, lenSl, isNilP, isNilS, putAt, if_true, if_false, reduceCtorEq, Nat.reduceLeDiff, Nat.reduceEqDiff, Nat.reduceSub, Nat.reduceMul, Nat.reduceAdd]
  refine cond_split (fun h => ?_) (fun h => ?_)
  · simp -implicitDefEqProofs only [S0, S1, S2, S3, S4, S5, S6, S7, S8, S9, S10, S11, S12, S13, S14, S15, opv, opvs, eget, env0, setD, lenStr, lenSl, isNilP, isNilS, putAt, if_true, if_false, reduceCtorEq, Nat.reduceLeDiff, Nat.reduceEqDiff, Nat.reduceSub, Nat.reduceMul, Nat.reduceAdd]
    simp only [decide_eq_true_eq] at h
    exact fin (by omega) (by omega)
  simp only [decide_eq_false_iff_not, Int.not_lt] at h
  have w3 : IntKind.i64.wrap (((m0 - n1.length) - n2.length) - n3.length) = ((m0 - n1.length) - n2.length) - n3.length := IntWalk.i64_in _ (by omega)
  simp -implicitDefEqProofs only [w3, S0, S1, S2, S3, S4, S5, S6, S7, S8, S9, S10, S11, S12, S13, S14, S15, opv, opvs, eget, env0, setD, lenStr, lenSl, isNilP, isNilS, putAt, if_true, if_false, reduceCtorEq, Nat.reduceLeDiff, Nat.reduceEqDiff, Nat.reduceSub, Nat.reduceMul, Nat.reduceAdd]
  refine cond_split (fun h => ?_) (fun h => ?_)
  · simp -implicitDefEqProofs only [S0, S1, S2, S3, S4, S5, S6, S7, S8, S9, S10, S11, S12, S13, S14, S15, opv, opvs, eget, env0, setD, lenStr, lenSl, isNilP, isNilS, putAt, if_true, if_false, reduceCtorEq, Nat.reduceLeDiff, Nat.reduceEqDiff, Nat.reduceSub, Nat.reduceMul, Nat.reduceAdd]
    simp only [decide_eq_true_eq] at h
    exact fin (by omega) (by omega)
  simp only [decide_eq_false_iff_not, Int.not_lt] at h
  simp -implicitDefEqProofs only [S0, S1, S2, S3, S4, S5, S6, S7, S8, S9, S10, S11, S12, S13, S14, S15, opv, opvs, eget, env0, setD, lenStr, lenSl, isNilP, isNilS, putAt, if_true, if_false, reduceCtorEq, Nat.reduceLeDiff, Nat.reduceEqDiff, Nat.reduceSub, Nat.reduceMul, Nat.reduceAdd]
  exact fin (by omega) (fun _ => by omega)
theorem szGateRule_x {n0} {n1} {n2} {n3} (left : Int) (σ : Store) (b0 : T.is (.sl 1 [.int .i64]) n0) (b1 : n1.length ≤ maxLen) (b2 : n2.length ≤ maxLen) (b3 : n3.length ≤ maxLen) (h0 : 0 ≤ left) (h1 : left ≤ 1048576) : ACalls Try.prog 51 [.agg [.t n0, .t (.str n1), .t (.str n2), .t (.str n3)], .t (.int .i64 left)] σ (SzR (T.sizeL [n0, (.str n1), (.str n2), (.str n3)]) left σ) := by
  have h := szGateRule [n0, (.str n1), (.str n2), (.str n3)] left σ (mkGateRule b0 b1 b2 b3) h0 h1
  exact h
def c_laws_eqGateRule : C := (.seq (.ops [⟨(some 2), none, (.box (.t 0))⟩, ⟨(some 3), none, (.box (.t 1))⟩, ⟨(some 4), none, (.mv (.c (.t (.bool false))))⟩]) (.seq (.seq (.ops [⟨(some 5), none, (.fieldAddr 0 (.t 2))⟩, ⟨(some 6), none, (.load none (.t 5))⟩, ⟨(some 7), none, (.fieldAddr 0 (.t 3))⟩, ⟨(some 8), none, (.load none (.t 7))⟩, ⟨(some 9), none, (.call (.c (.fn (.func 58) [])) [(.t 6), (.t 8)])⟩, ⟨(some 10), none, (.un .not (.t 9))⟩]) (.cond (.t 10) (.seq (.ops [⟨(some 4), none, (.mv (.c (.t (.bool false))))⟩]) .ret) .skip)) (.seq (.seq (.ops [⟨(some 11), none, (.fieldAddr 1 (.t 2))⟩, ⟨(some 12), none, (.load none (.t 11))⟩, ⟨(some 13), none, (.fieldAddr 1 (.t 3))⟩, ⟨(some 14), none, (.load none (.t 13))⟩, ⟨(some 15), none, (.bin .neq (.t 12) (.t 14))⟩]) (.cond (.t 15) (.seq (.ops [⟨(some 4), none, (.mv (.c (.t (.bool false))))⟩]) .ret) .skip)) (.seq (.seq (.ops [⟨(some 16), none, (.fieldAddr 2 (.t 2))⟩, ⟨(some 17), none, (.load none (.t 16))⟩, ⟨(some 18), none, (.fieldAddr 2 (.t 3))⟩, ⟨(some 19), none, (.load none (.t 18))⟩, ⟨(some 20), none, (.bin .neq (.t 17) (.t 19))⟩]) (.cond (.t 20) (.seq (.ops [⟨(some 4), none, (.mv (.c (.t (.bool false))))⟩]) .ret) .skip)) (.seq (.seq (.ops [⟨(some 21), none, (.fieldAddr 3 (.t 2))⟩, ⟨(some 22), none, (.load none (.t 21))⟩, ⟨(some 23), none, (.fieldAddr 3 (.t 3))⟩, ⟨(some 24), none, (.load none (.t 23))⟩, ⟨(some 25), none, (.bin .neq (.t 22) (.t 24))⟩]) (.cond (.t 25) (.seq (.ops [⟨(some 4), none, (.mv (.c (.t (.bool false))))⟩]) .ret) .skip)) (.seq (.ops [⟨(some 4), none, (.mv (.c (.t (.bool true))))⟩]) .ret))))))
theorem k_laws_eqGateRule : comp Try.prog 26 (Try.f54.body.getD .skip) = some c_laws_eqGateRule := by kernel_rfl

theorem eqGateRule : EqLOk Try.prog 54 shGateRule := by
  rintro ts σ ht h1
  obtain ⟨n0, n1, n2, n3, rfl, b0, b1, b2, b3⟩ := isGateRule ht
  rw [sizeGateRule] at h1
  refine acalls_of Try.func54 (by decide +kernel) (code := Try.f54.body.getD .skip) (n := 26) (c := c_laws_eqGateRule) (rs := [(.tmp 4)]) rfl rfl k_laws_eqGateRule (by kernel_rfl) (by simp) (fun hσ => ?_)
  simp -implicitDefEqProofs only [c_laws_eqGateRule, ne_self, beq_self_eq_true, S0, S1, S2, S3, S4, S5, S6, S7, S8, S9, S10, S11, S12, S13, S14, S15, opv, opvs, eget, env0, setD, lenStr, lenSl, isNilP, isNilS, putAt, if_true, if_false, reduceCtorEq, Nat.reduceLeDiff, Nat.reduceEqDiff, Nat.reduceSub, Nat.reduceMul, Nat.reduceAdd]
  refine call_pure (eqIntS n0 _ b0 (by omega)) ?_
  simp -implicitDefEqProofs only [ne_self, beq_self_eq_true, S0, S1, S2, S3, S4, S5, S6, S7, S8, S9, S10, S11, S12, S13, S14, S15, opv, opvs, eget, env0, setD, lenStr, lenSl, isNilP, isNilS, putAt, if_true, if_false, reduceCtorEq, Nat.reduceLeDiff, Nat.reduceEqDiff, Nat.reduceSub, Nat.reduceMul, Nat.reduceAdd]
  exact ret_same rfl hσ rfl ⟨rfl, rfl⟩
theorem eqGateRule_x {n0} {n1} {n2} {n3} (σ : Store) (b0 : T.is (.sl 1 [.int .i64]) n0) (b1 : n1.length ≤ maxLen) (b2 : n2.length ≤ maxLen) (b3 : n3.length ≤ maxLen) (hz : n0.size + n1.length + n2.length + n3.length ≤ 1099511627776) : ACalls Try.prog 54 [.agg [.t n0, .t (.str n1), .t (.str n2), .t (.str n3)], .agg [.t n0, .t (.str n1), .t (.str n2), .t (.str n3)]] σ (TrueR σ) := by
  have h := eqGateRule [n0, (.str n1), (.str n2), (.str n3)] σ (mkGateRule b0 b1 b2 b3) (by rw [sizeGateRule]; omega)
  exact h
def c_laws_toGateRule : C := (.seq (.ops [⟨(some 1), none, (.box (.t 0))⟩, ⟨(some 2), none, (.new [.nils, (.t (.str [])), (.t (.str [])), (.t (.str []))])⟩]) (.seq (.ops [⟨(some 3), none, (.new [.nils, (.t (.str [])), (.t (.str [])), (.t (.str []))])⟩]) (.seq (.ops [⟨(some 4), none, (.fieldAddr 0 (.t 1))⟩, ⟨(some 5), none, (.load none (.t 4))⟩, ⟨(some 6), none, (.call (.c (.fn (.func 56) [])) [(.t 5)])⟩, ⟨(some 7), none, (.fieldAddr 0 (.t 3))⟩, ⟨none, none, (.store 1 (.t 7) (.t 6))⟩]) (.seq (.ops [⟨(some 8), none, (.fieldAddr 1 (.t 1))⟩, ⟨(some 9), none, (.load none (.t 8))⟩, ⟨(some 10), none, (.fieldAddr 1 (.t 3))⟩, ⟨none, none, (.store 1 (.t 10) (.t 9))⟩]) (.seq (.ops [⟨(some 11), none, (.fieldAddr 2 (.t 1))⟩, ⟨(some 12), none, (.load none (.t 11))⟩, ⟨(some 13), none, (.fieldAddr 2 (.t 3))⟩, ⟨none, none, (.store 1 (.t 13) (.t 12))⟩]) (.seq (.ops [⟨(some 14), none, (.fieldAddr 3 (.t 1))⟩, ⟨(some 15), none, (.load none (.t 14))⟩, ⟨(some 16), none, (.fieldAddr 3 (.t 3))⟩, ⟨none, none, (.store 1 (.t 16) (.t 15))⟩]) (.seq (.ops [⟨(some 17), none, (.load (some 4) (.t 3))⟩, ⟨none, none, (.store 4 (.t 2) (.t 17))⟩]) .ret)))))))
theorem k_laws_toGateRule : comp Try.prog 18 (Try.f52.body.getD .skip) = some c_laws_toGateRule := by kernel_rfl

theorem toGateRule : ToLOk Try.prog 52 shGateRule := by
  rintro ts σ ht h1
  obtain ⟨n0, n1, n2, n3, rfl, b0, b1, b2, b3⟩ := isGateRule ht
  rw [sizeGateRule] at h1
  refine acalls_of Try.func52 (by decide +kernel) (code := Try.f52.body.getD .skip) (n := 18) (c := c_laws_toGateRule) (rs := [(.cell 2 (some 4))]) rfl rfl k_laws_toGateRule (by kernel_rfl) (by simp) (fun hσ => ?_)
  simp -implicitDefEqProofs only [c_laws_toGateRule, S0, S1, S2, S3, S4, S5, S6, S7, S8, S9, S10, S11, S12, S13, S14, S15, opv, opvs, eget, env0, setD, lenStr, lenSl, isNilP, isNilS, putAt, if_true, if_false, reduceCtorEq, Nat.reduceLeDiff, Nat.reduceEqDiff, Nat.reduceSub, Nat.reduceMul, Nat.reduceAdd]
  refine call_by (by rw [List.append_nil]; exact toIntS n0 _ b0 (by omega)) ?_
  rintro u0 σ' ⟨τ0, j0, rfl, o0, w0⟩
  have e0 := o0.one
  simp -implicitDefEqProofs only [one_cells e0, e0, S0, S1, S2, S3, S4, S5, S6, S7, S8, S9, S10, S11, S12, S13, S14, S15, opv, opvs, eget, env0, setD, lenStr, lenSl, isNilP, isNilS, putAt, if_true, if_false, reduceCtorEq, Nat.reduceLeDiff, Nat.reduceEqDiff, Nat.reduceSub, Nat.reduceMul, Nat.reduceAdd]
  refine fin_keep (by simp) ⟨_, _, (j0 ++ []), rfl, rfl, (OwnL.lst (own_pre (A := [_, _, _]) (A' := [_, _, _]) (B := τ0) (B' := τ0) o0 w0 (List.append_assoc ..) rfl rfl (by simp) (by simp)) (OwnL.str (OwnL.str (OwnL.str OwnL.nil0)))), ?_⟩
  simp only [List.length_append, List.length_cons, List.length_nil] at w0 ⊢
  refine Wi.mono (a := σ.length) ?_ (Nat.le_refl _) (Nat.le_refl _)
  exact wi_last w0 (by omega) (by omega)
theorem toGateRule_x {n0} {n1} {n2} {n3} (σ : Store) (b0 : T.is (.sl 1 [.int .i64]) n0) (b1 : n1.length ≤ maxLen) (b2 : n2.length ≤ maxLen) (b3 : n3.length ≤ maxLen) (hz : n0.size + n1.length + n2.length + n3.length ≤ 1048576) : ACalls Try.prog 52 [.agg [.t n0, .t (.str n1), .t (.str n2), .t (.str n3)]] σ (ToLR [n0, (.str n1), (.str n2), (.str n3)] σ) := by
  have h := toGateRule [n0, (.str n1), (.str n2), (.str n3)] σ (mkGateRule b0 b1 b2 b3) (by rw [sizeGateRule]; omega)
  exact h
def shGateGrant : List Sh := [.int .i64, .str, .str, .sl 1 [.int .i64], .str, .str, .str]
theorem isGateGrant {ts : List T} (ht : T.isL shGateGrant ts) : ∃ n0 n1 n2 n3 n4 n5 n6, ts = [(.int .i64 n0), (.str n1), (.str n2), n3, (.str n4), (.str n5), (.str n6)] ∧ (Lit.int .i64 n0).wf = true ∧ n1.length ≤ maxLen ∧ n2.length ≤ maxLen ∧ T.is (.sl 1 [.int .i64]) n3 ∧ n4.length ≤ maxLen ∧ n5.length ≤ maxLen ∧ n6.length ≤ maxLen := by
  simp only [shGateGrant, isL_cons, isL_nil, is_int, is_bool, is_str] at ht
  obtain ⟨_, _, rfl, ⟨n0, rfl, b0⟩, _, _, rfl, ⟨n1, rfl, b1⟩, _, _, rfl, ⟨n2, rfl, b2⟩, n3, _, rfl, b3, _, _, rfl, ⟨n4, rfl, b4⟩, _, _, rfl, ⟨n5, rfl, b5⟩, _, _, rfl, ⟨n6, rfl, b6⟩, rfl⟩ := ht
  exact ⟨_, _, _, _, _, _, _, rfl, b0, b1, b2, b3, b4, b5, b6⟩
theorem mkGateGrant {n0} {n1} {n2} {n3} {n4} {n5} {n6} (b0 : (Lit.int .i64 n0).wf = true) (b1 : n1.length ≤ maxLen) (b2 : n2.length ≤ maxLen) (b3 : T.is (.sl 1 [.int .i64]) n3) (b4 : n4.length ≤ maxLen) (b5 : n5.length ≤ maxLen) (b6 : n6.length ≤ maxLen) : T.isL shGateGrant [(.int .i64 n0), (.str n1), (.str n2), n3, (.str n4), (.str n5), (.str n6)] := by
  simp only [shGateGrant, isL_cons, isL_nil, is_int, is_bool, is_str]
  exact ⟨_, _, rfl, ⟨_, rfl, b0⟩, _, _, rfl, ⟨_, rfl, b1⟩, _, _, rfl, ⟨_, rfl, b2⟩, _, _, rfl, b3, _, _, rfl, ⟨_, rfl, b4⟩, _, _, rfl, ⟨_, rfl, b5⟩, _, _, rfl, ⟨_, rfl, b6⟩, rfl⟩
theorem sizeGateGrant {n0} {n1} {n2} {n3} {n4} {n5} {n6} : T.sizeL [(.int .i64 n0), (.str n1), (.str n2), n3, (.str n4), (.str n5), (.str n6)] = n1.length + n2.length + n3.size + n4.length + n5.length + n6.length := by
  simp only [sizeL_cons, sizeL_nil, size_int, size_bool, size_str]
  try omega
def c_laws_szGateGrant : C := (.seq (.ops [⟨(some 2), none, (.box (.t 0))⟩, ⟨(some 4), none, (.mv (.c (.t (.int .i64 0))))⟩]) (.seq (.ops [⟨(some 5), none, (.mv (.t 1))⟩, ⟨(some 6), none, (.fieldAddr 1 (.t 2))⟩, ⟨(some 7), none, (.load none (.t 6))⟩, ⟨(some 8), none, (.len true (.t 7))⟩, ⟨(some 9), none, (.bin .sub (.t 5) (.t 8))⟩, ⟨(some 1), none, (.mv (.t 9))⟩]) (.seq (.seq (.ops [⟨(some 10), none, (.mv (.t 1))⟩, ⟨(some 11), none, (.bin .lss (.t 10) (.c (.t (.int .i64 0))))⟩]) (.cond (.t 11) (.seq (.ops [⟨(some 4), none, (.mv (.c (.t (.int .i64 (-1)))))⟩]) .ret) .skip)) (.seq (.ops [⟨(some 12), none, (.mv (.t 1))⟩, ⟨(some 13), none, (.fieldAddr 2 (.t 2))⟩, ⟨(some 14), none, (.load none (.t 13))⟩, ⟨(some 15), none, (.len true (.t 14))⟩, ⟨(some 16), none, (.bin .sub (.t 12) (.t 15))⟩, ⟨(some 1), none, (.mv (.t 16))⟩]) (.seq (.seq (.ops [⟨(some 17), none, (.mv (.t 1))⟩, ⟨(some 18), none, (.bin .lss (.t 17) (.c (.t (.int .i64 0))))⟩]) (.cond (.t 18) (.seq (.ops [⟨(some 4), none, (.mv (.c (.t (.int .i64 (-1)))))⟩]) .ret) .skip)) (.seq (.ops [⟨(some 19), none, (.fieldAddr 3 (.t 2))⟩, ⟨(some 20), none, (.load (some 4) (.t 19))⟩, ⟨(some 21), none, (.mv (.t 1))⟩, ⟨(some 22), none, (.call (.c (.fn (.func 51) [])) [(.t 20), (.t 21)])⟩, ⟨(some 1), none, (.mv (.t 22))⟩]) (.seq (.seq (.ops [⟨(some 23), none, (.mv (.t 1))⟩, ⟨(some 24), none, (.bin .lss (.t 23) (.c (.t (.int .i64 0))))⟩]) (.cond (.t 24) (.seq (.ops [⟨(some 4), none, (.mv (.c (.t (.int .i64 (-1)))))⟩]) .ret) .skip)) (.seq (.ops [⟨(some 25), none, (.mv (.t 1))⟩, ⟨(some 4), none, (.mv (.t 25))⟩]) .ret))))))))
theorem k_laws_szGateGrant : comp Try.prog 26 (Try.f42.body.getD .skip) = some c_laws_szGateGrant := by kernel_rfl

theorem szGateGrant : SzLOk Try.prog 42 shGateGrant := by
  rintro ts left σ ht h0 h1
  obtain ⟨n0, n1, n2, n3, n4, n5, n6, rfl, b0, b1, b2, b3, b4, b5, b6⟩ := isGateGrant ht
  refine acalls_of Try.func42 (by decide +kernel) (code := Try.f42.body.getD .skip) (n := 26) (c := c_laws_szGateGrant) (rs := [(.tmp 4)]) rfl rfl k_laws_szGateGrant (by kernel_rfl) (by simp) (fun hσ => ?_)
  try simp only [maxLen] at *
  have fin : ∀ {n : Int} {τ : Store}, n ≤ left → (0 ≤ n → ((n1.length + n2.length + n3.size + n4.length + n5.length + n6.length : Nat) : Int) + n ≤ left) → retV σ.length (SzR (T.sizeL [(.int .i64 n0), (.str n1), (.str n2), n3, (.str n4), (.str n5), (.str n6)]) left σ) (σ ++ τ) (some [.t (.int .i64 n)]) := fun h h' => ret_same rfl hσ rfl ⟨⟨_, rfl, h, fun h0 => by have := h' h0; rw [sizeGateGrant]; exact this⟩, rfl⟩
  have w1 : IntKind.i64.wrap (left - n1.length) = left - n1.length := IntWalk.i64_in _ (by omega)
  simp -implicitDefEqProofs only [c_laws_szGateGrant, w1, S0, S1, S2, S3, S4, S5, S6, S7, S8, S9, S10, S11, S12, S13, S14, S15, opv, opvs, eget, env0, setD, lenStr, lenSl, isNilP, isNilS, putAt, if_true, if_false, reduceCtorEq, Nat.reduceLeDiff, Nat.reduceEqDiff, Nat.reduceSub, Nat.reduceMul, Nat.reduceAdd]
  refine cond_split (fun h => ?_) (fun h => ?_)
  · simp -implicitDefEqProofs only [S0, S1, S2, S3, S4, S5, S6, S7, S8, S9, S10, S11, S12, S13, S14, S15, opv, opvs, eget, env0, setD, lenStr, lenSl, isNilP, isNilS, putAt, if_true, if_false, reduceCtorEq, Nat.reduceLeDiff, Nat.reduceEqDiff, Nat.reduceSub, Nat.reduceMul, Nat.reduceAdd]
    simp only [decide_eq_true_eq] at h
    exact fin (by omega) (by omega)
  simp only [decide_eq_false_iff_not, Int.not_lt] at h
  have w2 : IntKind.i64.wrap ((left - n1.length) - n2.length) = (left - n1.length) - n2.length := IntWalk.i64_in _ (by omega)
  simp -implicitDefEqProofs only [w2, S0, S1, S2, S3, S4, S5, S6, S7, S8, S9, S10, S11, S12, S13, S14, S15, opv, opvs, eget, env0, setD, lenStr, lenSl, isNilP, isNilS, putAt, if_true, if_false, reduceCtorEq, Nat.reduceLeDiff, Nat.reduceEqDiff, Nat.reduceSub, Nat.reduceMul, Nat.reduceAdd]
  refine cond_split (fun h => ?_) (fun h => ?_)
  · simp -implicitDefEqProofs only [S0, S1, S2, S3, S4, S5, S6, S7, S8, S9, S10, S11, S12, S13, S14, S15, opv, opvs, eget, env0, setD, lenStr, lenSl, isNilP, isNilS, putAt, if_true, if_false, reduceCtorEq, Nat.reduceLeDiff, Nat.reduceEqDiff, Nat.reduceSub, Nat.reduceMul, Nat.reduceAdd]
    simp only [decide_eq_true_eq] at h
    exact fin (by omega) (by omega)
  simp only [decide_eq_false_iff_not, Int.not_lt] at h
  simp -implicitDefEqProofs only [S0, S1, S2, S3, S4, S5, S6, S7, S8, S9, S10, S11, S12, S13, S14, S15, opv, opvs, eget, env0, setD, lenStr, lenSl, isNilP, isNilS, putAt, if_true, if_false, reduceCtorEq, Nat.reduceLeDiff, Nat.reduceEqDiff, Nat.reduceSub, Nat.reduceMul, Nat.reduceAdd]
  refine call_by (by rw [List.append_nil]; exact szGateRule_x  ((left - n1.length) - n2.length) _ b3 b4 b5 b6 (by omega) (by omega)) ?_
  rintro r σ' ⟨⟨m3, rfl, hm3, hs3⟩, rfl⟩
  try simp only [sizeGateRule] at hs3
  simp -implicitDefEqProofs only [S0, S1, S2, S3, S4, S5, S6, S7, S8, S9, S10, S11, S12, S13, S14, S15, opv, opvs, eget, env0, setD, lenStr, lenSl, isNilP, isNilS, putAt, if_true, if_false, reduceCtorEq, Nat.reduceLeDiff, Nat.reduceEqDiff, Nat.reduceSub, Nat.reduceMul, Nat.reduceAdd]
  refine cond_split (fun h => ?_) (fun h => ?_)
  · simp -implicitDefEqProofs only [S0, S1, S2, S3, S4, S5, S6, S7, S8, S9, S10, S11, S12, S13, S14, S15, opv, opvs, eget, env0, setD, lenStr, lenSl, isNilP, isNilS, putAt, if_true, if_false, reduceCtorEq, Nat.reduceLeDiff, Nat.reduceEqDiff, Nat.reduceSub, Nat.reduceMul, Nat.reduceAdd]
    simp only [decide_eq_true_eq] at h
    exact fin (by omega) (by omega)
  simp only [decide_eq_false_iff_not, Int.not_lt] at h
  replace hs3 := hs3 h
  simp -implicitDefEqProofs only [S0, S1, S2, S3, S4, S5, S6, S7, S8, S9, S10, S11, S12, S13, S14, S15, opv, opvs, eget, env0, setD, lenStr, lenSl, isNilP, isNilS, putAt, if_true, if_false, reduceCtorEq, Nat.reduceLeDiff, Nat.reduceEqDiff, Nat.reduceSub, Nat.reduceMul, Nat.reduceAdd]
  exact fin (by omega) (fun _ => by omega)
theorem szGateGrant_x {n0} {n1} {n2} {n3} {n4} {n5} {n6} (left : Int) (σ : Store) (b0 : (Lit.int .i64 n0).wf = true) (b1 : n1.length ≤ maxLen) (b2 : n2.length ≤ maxLen) (b3 : T.is (.sl 1 [.int .i64]) n3) (b4 : n4.length ≤ maxLen) (b5 : n5.length ≤ maxLen) (b6 : n6.length ≤ maxLen) (h0 : 0 ≤ left) (h1 : left ≤ 1048576) : ACalls Try.prog 42 [.agg [.t (.int .i64 n0), .t (.str n1), .t (.str n2), .t n3, .t (.str n4), .t (.str n5), .t (.str n6)], .t (.int .i64 left)] σ (SzR (T.sizeL [(.int .i64 n0), (.str n1), (.str n2), n3, (.str n4), (.str n5), (.str n6)]) left σ) := by
  have h := szGateGrant [(.int .i64 n0), (.str n1), (.str n2), n3, (.str n4), (.str n5), (.str n6)] left σ (mkGateGrant b0 b1 b2 b3 b4 b5 b6) h0 h1
  exact h
def c_laws_eqGateGrant : C := (.seq (.ops [⟨(some 2), none, (.box (.t 0))⟩, ⟨(some 3), none, (.box (.t 1))⟩, ⟨(some 4), none, (.mv (.c (.t (.bool false))))⟩]) (.seq (.seq (.ops [⟨(some 5), none, (.fieldAddr 0 (.t 2))⟩, ⟨(some 6), none, (.load none (.t 5))⟩, ⟨(some 7), none, (.fieldAddr 0 (.t 3))⟩, ⟨(some 8), none, (.load none (.t 7))⟩, ⟨(some 9), none, (.bin .neq (.t 6) (.t 8))⟩]) (.cond (.t 9) (.seq (.ops [⟨(some 4), none, (.mv (.c (.t (.bool false))))⟩]) .ret) .skip)) (.seq (.seq (.ops [⟨(some 10), none, (.fieldAddr 1 (.t 2))⟩, ⟨(some 11), none, (.load none (.t 10))⟩, ⟨(some 12), none, (.fieldAddr 1 (.t 3))⟩, ⟨(some 13), none, (.load none (.t 12))⟩, ⟨(some 14), none, (.bin .neq (.t 11) (.t 13))⟩]) (.cond (.t 14) (.seq (.ops [⟨(some 4), none, (.mv (.c (.t (.bool false))))⟩]) .ret) .skip)) (.seq (.seq (.ops [⟨(some 15), none, (.fieldAddr 2 (.t 2))⟩, ⟨(some 16), none, (.load none (.t 15))⟩, ⟨(some 17), none, (.fieldAddr 2 (.t 3))⟩, ⟨(some 18), none, (.load none (.t 17))⟩, ⟨(some 19), none, (.bin .neq (.t 16) (.t 18))⟩]) (.cond (.t 19) (.seq (.ops [⟨(some 4), none, (.mv (.c (.t (.bool false))))⟩]) .ret) .skip)) (.seq (.seq (.ops [⟨(some 20), none, (.fieldAddr 3 (.t 2))⟩, ⟨(some 21), none, (.load (some 4) (.t 20))⟩, ⟨(some 22), none, (.fieldAddr 3 (.t 3))⟩, ⟨(some 23), none, (.load (some 4) (.t 22))⟩, ⟨(some 24), none, (.call (.c (.fn (.func 54) [])) [(.t 21), (.t 23)])⟩, ⟨(some 25), none, (.un .not (.t 24))⟩]) (.cond (.t 25) (.seq (.ops [⟨(some 4), none, (.mv (.c (.t (.bool false))))⟩]) .ret) .skip)) (.seq (.ops [⟨(some 4), none, (.mv (.c (.t (.bool true))))⟩]) .ret))))))
theorem k_laws_eqGateGrant : comp Try.prog 26 (Try.f50.body.getD .skip) = some c_laws_eqGateGrant := by kernel_rfl

theorem eqGateGrant : EqLOk Try.prog 50 shGateGrant := by
  rintro ts σ ht h1
  obtain ⟨n0, n1, n2, n3, n4, n5, n6, rfl, b0, b1, b2, b3, b4, b5, b6⟩ := isGateGrant ht
  rw [sizeGateGrant] at h1
  refine acalls_of Try.func50 (by decide +kernel) (code := Try.f50.body.getD .skip) (n := 26) (c := c_laws_eqGateGrant) (rs := [(.tmp 4)]) rfl rfl k_laws_eqGateGrant (by kernel_rfl) (by simp) (fun hσ => ?_)
  simp -implicitDefEqProofs only [c_laws_eqGateGrant, ne_self, beq_self_eq_true, S0, S1, S2, S3, S4, S5, S6, S7, S8, S9, S10, S11, S12, S13, S14, S15, opv, opvs, eget, env0, setD, lenStr, lenSl, isNilP, isNilS, putAt, if_true, if_false, reduceCtorEq, Nat.reduceLeDiff, Nat.reduceEqDiff, Nat.reduceSub, Nat.reduceMul, Nat.reduceAdd]
  refine call_pure (eqGateRule_x  _ b3 b4 b5 b6 (by omega)) ?_
  simp -implicitDefEqProofs only [ne_self, beq_self_eq_true, S0, S1, S2, S3, S4, S5, S6, S7, S8, S9, S10, S11, S12, S13, S14, S15, opv, opvs, eget, env0, setD, lenStr, lenSl, isNilP, isNilS, putAt, if_true, if_false, reduceCtorEq, Nat.reduceLeDiff, Nat.reduceEqDiff, Nat.reduceSub, Nat.reduceMul, Nat.reduceAdd]
  exact ret_same rfl hσ rfl ⟨rfl, rfl⟩
theorem eqGateGrant_x {n0} {n1} {n2} {n3} {n4} {n5} {n6} (σ : Store) (b0 : (Lit.int .i64 n0).wf = true) (b1 : n1.length ≤ maxLen) (b2 : n2.length ≤ maxLen) (b3 : T.is (.sl 1 [.int .i64]) n3) (b4 : n4.length ≤ maxLen) (b5 : n5.length ≤ maxLen) (b6 : n6.length ≤ maxLen) (hz : n1.length + n2.length + n3.size + n4.length + n5.length + n6.length ≤ 1099511627776) : ACalls Try.prog 50 [.agg [.t (.int .i64 n0), .t (.str n1), .t (.str n2), .t n3, .t (.str n4), .t (.str n5), .t (.str n6)], .agg [.t (.int .i64 n0), .t (.str n1), .t (.str n2), .t n3, .t (.str n4), .t (.str n5), .t (.str n6)]] σ (TrueR σ) := by
  have h := eqGateGrant [(.int .i64 n0), (.str n1), (.str n2), n3, (.str n4), (.str n5), (.str n6)] σ (mkGateGrant b0 b1 b2 b3 b4 b5 b6) (by rw [sizeGateGrant]; omega)
  exact h
def c_laws_toGateGrant : C := (.seq (.ops [⟨(some 1), none, (.box (.t 0))⟩, ⟨(some 2), none, (.new [(.t (.int .i64 0)), (.t (.str [])), (.t (.str [])), .nils, (.t (.str [])), (.t (.str [])), (.t (.str []))])⟩]) (.seq (.ops [⟨(some 3), none, (.new [(.t (.int .i64 0)), (.t (.str [])), (.t (.str [])), .nils, (.t (.str [])), (.t (.str [])), (.t (.str []))])⟩]) (.seq (.ops [⟨(some 4), none, (.fieldAddr 0 (.t 1))⟩, ⟨(some 5), none, (.load none (.t 4))⟩, ⟨(some 6), none, (.fieldAddr 0 (.t 3))⟩, ⟨none, none, (.store 1 (.t 6) (.t 5))⟩]) (.seq (.ops [⟨(some 7), none, (.fieldAddr 1 (.t 1))⟩, ⟨(some 8), none, (.load none (.t 7))⟩, ⟨(some 9), none, (.fieldAddr 1 (.t 3))⟩, ⟨none, none, (.store 1 (.t 9) (.t 8))⟩]) (.seq (.ops [⟨(some 10), none, (.fieldAddr 2 (.t 1))⟩, ⟨(some 11), none, (.load none (.t 10))⟩, ⟨(some 12), none, (.fieldAddr 2 (.t 3))⟩, ⟨none, none, (.store 1 (.t 12) (.t 11))⟩]) (.seq (.ops [⟨(some 13), none, (.fieldAddr 3 (.t 1))⟩, ⟨(some 14), none, (.load (some 4) (.t 13))⟩, ⟨(some 15), none, (.call (.c (.fn (.func 52) [])) [(.t 14)])⟩, ⟨(some 16), none, (.fieldAddr 3 (.t 3))⟩, ⟨none, none, (.store 4 (.t 16) (.t 15))⟩]) (.seq (.ops [⟨(some 17), none, (.load (some 7) (.t 3))⟩, ⟨none, none, (.store 7 (.t 2) (.t 17))⟩]) .ret)))))))
theorem k_laws_toGateGrant : comp Try.prog 18 (Try.f46.body.getD .skip) = some c_laws_toGateGrant := by kernel_rfl

theorem toGateGrant : ToLOk Try.prog 46 shGateGrant := by
  rintro ts σ ht h1
  obtain ⟨n0, n1, n2, n3, n4, n5, n6, rfl, b0, b1, b2, b3, b4, b5, b6⟩ := isGateGrant ht
  rw [sizeGateGrant] at h1
  refine acalls_of Try.func46 (by decide +kernel) (code := Try.f46.body.getD .skip) (n := 18) (c := c_laws_toGateGrant) (rs := [(.cell 2 (some 7))]) rfl rfl k_laws_toGateGrant (by kernel_rfl) (by simp) (fun hσ => ?_)
  simp -implicitDefEqProofs only [c_laws_toGateGrant, S0, S1, S2, S3, S4, S5, S6, S7, S8, S9, S10, S11, S12, S13, S14, S15, opv, opvs, eget, env0, setD, lenStr, lenSl, isNilP, isNilS, putAt, if_true, if_false, reduceCtorEq, Nat.reduceLeDiff, Nat.reduceEqDiff, Nat.reduceSub, Nat.reduceMul, Nat.reduceAdd]
  refine call_by (by rw [List.append_nil]; exact toGateRule_x  _ b3 b4 b5 b6 (by omega)) ?_
  rintro r σ' ⟨us, τ3, j3, rfl, rfl, o3, w3⟩
  obtain ⟨u3x0, u3x1, u3x2, u3x3, rfl⟩ : ∃ u3x0 u3x1 u3x2 u3x3, us = [u3x0, u3x1, u3x2, u3x3] := list4x (by have := o3.len; simpa using this)
  have e3 := o3.ones
  simp only [List.all_cons, List.all_nil, Bool.and_eq_true, and_true] at e3
  obtain ⟨e3x0, e3x1, e3x2, e3x3⟩ := e3
  simp -implicitDefEqProofs only [e3x0, e3x1, e3x2, e3x3, S0, S1, S2, S3, S4, S5, S6, S7, S8, S9, S10, S11, S12, S13, S14, S15, opv, opvs, eget, env0, setD, lenStr, lenSl, isNilP, isNilS, putAt, if_true, if_false, reduceCtorEq, Nat.reduceLeDiff, Nat.reduceEqDiff, Nat.reduceSub, Nat.reduceMul, Nat.reduceAdd]
  refine fin_keep (by simp) ⟨_, _, (j3 ++ []), rfl, rfl, (OwnL.int (OwnL.str (OwnL.str (own_app4 (ownL_pre (A := [_, _, _]) (A' := [_, _, _]) (B := τ3) (B' := τ3) o3 w3 (List.append_assoc ..) rfl rfl (by simp) (by simp)) OwnL.nil0)))), ?_⟩
  simp only [List.length_append, List.length_cons, List.length_nil] at w3 ⊢
  refine Wi.mono (a := σ.length) ?_ (Nat.le_refl _) (Nat.le_refl _)
  exact wi_last w3 (by omega) (by omega)
theorem toGateGrant_x {n0} {n1} {n2} {n3} {n4} {n5} {n6} (σ : Store) (b0 : (Lit.int .i64 n0).wf = true) (b1 : n1.length ≤ maxLen) (b2 : n2.length ≤ maxLen) (b3 : T.is (.sl 1 [.int .i64]) n3) (b4 : n4.length ≤ maxLen) (b5 : n5.length ≤ maxLen) (b6 : n6.length ≤ maxLen) (hz : n1.length + n2.length + n3.size + n4.length + n5.length + n6.length ≤ 1048576) : ACalls Try.prog 46 [.agg [.t (.int .i64 n0), .t (.str n1), .t (.str n2), .t n3, .t (.str n4), .t (.str n5), .t (.str n6)]] σ (ToLR [(.int .i64 n0), (.str n1), (.str n2), n3, (.str n4), (.str n5), (.str n6)] σ) := by
  have h := toGateGrant [(.int .i64 n0), (.str n1), (.str n2), n3, (.str n4), (.str n5), (.str n6)] σ (mkGateGrant b0 b1 b2 b3 b4 b5 b6) (by rw [sizeGateGrant]; omega)
  exact h
theorem i_szGateGrantS : Is Try.prog 28 27 [(.tmp 4)] (tSzS 7 42) := ⟨_, _, Try.func28, by decide +kernel, rfl, rfl, by kernel_rfl, rfl⟩
theorem szGateGrantS : SzOk Try.prog 28 (.sl 7 shGateGrant) := szS_ok rfl i_szGateGrantS szGateGrant
theorem i_eqGateGrantS : Is Try.prog 36 27 [(.tmp 4)] (tEqS 7 50) := ⟨_, _, Try.func36, by decide +kernel, rfl, rfl, by kernel_rfl, rfl⟩
theorem eqGateGrantS : EqOk Try.prog 36 (.sl 7 shGateGrant) := eqS_ok rfl i_eqGateGrantS eqGateGrant
theorem i_toGateGrantS : Is Try.prog 32 23 [(.tmp 2)] (tToS 7 112 46 [.t (.int .i64 0), .t (.str []), .t (.str []), .nils, .t (.str []), .t (.str []), .t (.str [])]) := ⟨_, _, Try.func32, by decide +kernel, rfl, rfl, by kernel_rfl, rfl⟩
theorem toGateGrantS : ToOk Try.prog 32 (.sl 7 shGateGrant) := toS_ok 112 [.t (.int .i64 0), .t (.str []), .t (.str []), .nils, .t (.str []), .t (.str []), .t (.str [])] rfl (by decide) rfl (by decide) i_toGateGrantS toGateGrant
def shHallHouse : List Sh := [.sl 2 shGateTeam, .sl 7 shGateGrant]
theorem isHallHouse {ts : List T} (ht : T.isL shHallHouse ts) : ∃ n0 n1, ts = [n0, n1] ∧ T.is (.sl 2 shGateTeam) n0 ∧ T.is (.sl 7 shGateGrant) n1 := by
  simp only [shHallHouse, isL_cons, isL_nil, is_int, is_bool, is_str] at ht
  obtain ⟨n0, _, rfl, b0, n1, _, rfl, b1, rfl⟩ := ht
  exact ⟨_, _, rfl, b0, b1⟩
theorem mkHallHouse {n0} {n1} (b0 : T.is (.sl 2 shGateTeam) n0) (b1 : T.is (.sl 7 shGateGrant) n1) : T.isL shHallHouse [n0, n1] := by
  simp only [shHallHouse, isL_cons, isL_nil, is_int, is_bool, is_str]
  exact ⟨_, _, rfl, b0, _, _, rfl, b1, rfl⟩
theorem sizeHallHouse {n0} {n1} : T.sizeL [n0, n1] = n0.size + n1.size := by
  simp only [sizeL_cons, sizeL_nil, size_int, size_bool, size_str]
  try omega
def c_laws_szHallHouse : C := (.seq (.ops [⟨(some 2), none, (.box (.t 0))⟩, ⟨(some 4), none, (.mv (.c (.t (.int .i64 0))))⟩]) (.seq (.ops [⟨(some 5), none, (.fieldAddr 0 (.t 2))⟩, ⟨(some 6), none, (.load none (.t 5))⟩, ⟨(some 7), none, (.mv (.t 1))⟩, ⟨(some 8), none, (.call (.c (.fn (.func 27) [])) [(.t 6), (.t 7)])⟩, ⟨(some 1), none, (.mv (.t 8))⟩]) (.seq (.seq (.ops [⟨(some 9), none, (.mv (.t 1))⟩, ⟨(some 10), none, (.bin .lss (.t 9) (.c (.t (.int .i64 0))))⟩]) (.cond (.t 10) (.seq (.ops [⟨(some 4), none, (.mv (.c (.t (.int .i64 (-1)))))⟩]) .ret) .skip)) (.seq (.ops [⟨(some 11), none, (.fieldAddr 1 (.t 2))⟩, ⟨(some 12), none, (.load none (.t 11))⟩, ⟨(some 13), none, (.mv (.t 1))⟩, ⟨(some 14), none, (.call (.c (.fn (.func 28) [])) [(.t 12), (.t 13)])⟩, ⟨(some 1), none, (.mv (.t 14))⟩]) (.seq (.seq (.ops [⟨(some 15), none, (.mv (.t 1))⟩, ⟨(some 16), none, (.bin .lss (.t 15) (.c (.t (.int .i64 0))))⟩]) (.cond (.t 16) (.seq (.ops [⟨(some 4), none, (.mv (.c (.t (.int .i64 (-1)))))⟩]) .ret) .skip)) (.seq (.ops [⟨(some 17), none, (.mv (.t 1))⟩, ⟨(some 4), none, (.mv (.t 17))⟩]) .ret))))))
theorem k_laws_szHallHouse : comp Try.prog 18 (Try.f16.body.getD .skip) = some c_laws_szHallHouse := by kernel_rfl

theorem szHallHouse : SzLOk Try.prog 16 shHallHouse := by
  rintro ts left σ ht h0 h1
  obtain ⟨n0, n1, rfl, b0, b1⟩ := isHallHouse ht
  refine acalls_of Try.func16 (by decide +kernel) (code := Try.f16.body.getD .skip) (n := 18) (c := c_laws_szHallHouse) (rs := [(.tmp 4)]) rfl rfl k_laws_szHallHouse (by kernel_rfl) (by simp) (fun hσ => ?_)
  try simp only [maxLen] at *
  have fin : ∀ {n : Int} {τ : Store}, n ≤ left → (0 ≤ n → ((n0.size + n1.size : Nat) : Int) + n ≤ left) → retV σ.length (SzR (T.sizeL [n0, n1]) left σ) (σ ++ τ) (some [.t (.int .i64 n)]) := fun h h' => ret_same rfl hσ rfl ⟨⟨_, rfl, h, fun h0 => by have := h' h0; rw [sizeHallHouse]; exact this⟩, rfl⟩
  simp -implicitDefEqProofs only [c_laws_szHallHouse, S0, S1, S2, S3, S4, S5, S6, S7, S8, S9, S10, S11, S12, S13, S14, S15, opv, opvs, eget, env0, setD, lenStr, lenSl, isNilP, isNilS, putAt, if_true, if_false, reduceCtorEq, Nat.reduceLeDiff, Nat.reduceEqDiff, Nat.reduceSub, Nat.reduceMul, Nat.reduceAdd]
  refine call_by (by rw [List.append_nil]; exact szGateTeamS n0 left _ b0 (by omega) (by omega)) ?_
  rintro r σ' ⟨⟨m0, rfl, hm0, hs0⟩, rfl⟩
  try simp only [sizeHallHouse] at hs0
  simp -implicitDefEqProofs only [S0, S1, S2, S3, S4, S5, S6, S7, S8, S9, S10, S11, S12, S13, S14, S15, opv, opvs, eget, env0, setD, lenStr, lenSl, isNilP, isNilS, putAt, if_true, if_false, reduceCtorEq, Nat.reduceLeDiff, Nat.reduceEqDiff, Nat.reduceSub, Nat.reduceMul, Nat.reduceAdd]
  refine cond_split (fun h => ?_) (fun h => ?_)
  · simp -implicitDefEqProofs only [S0, S1, S2, S3, S4, S5, S6, S7, S8, S9, S10, S11, S12, S13, S14, S15, opv, opvs, eget, env0, setD, lenStr, lenSl, isNilP, isNilS, putAt, if_true, if_false, reduceCtorEq, Nat.reduceLeDiff, Nat.reduceEqDiff, Nat.reduceSub, Nat.reduceMul, Nat.reduceAdd]
    simp only [decide_eq_true_eq] at h
    exact fin (by omega) (by omega)
  simp only [decide_eq_false_iff_not, Int.not_lt] at h
  replace hs0 := hs0 h
  simp -implicitDefEqProofs only [S0, S1, S2, S3, S4, S5, S6, S7, S8, S9, S10, S11, S12, S13, S14, S15, opv, opvs, eget, env0, setD, lenStr, lenSl, isNilP, isNilS, putAt, if_true, if_false, reduceCtorEq, Nat.reduceLeDiff, Nat.reduceEqDiff, Nat.reduceSub, Nat.reduceMul, Nat.reduceAdd]
  refine call_by (by rw [List.append_nil]; exact szGateGrantS n1 m0 _ b1 (by omega) (by omega)) ?_
  rintro r σ' ⟨⟨m1, rfl, hm1, hs1⟩, rfl⟩
  try simp only [sizeHallHouse] at hs1
  simp -implicitDefEqProofs only [S0, S1, S2, S3, S4, S5, S6, S7, S8, S9, S10, S11, S12, S13, S14, S15, opv, opvs, eget, env0, setD, lenStr, lenSl, isNilP, isNilS, putAt, if_true, if_false, reduceCtorEq, Nat.reduceLeDiff, Nat.reduceEqDiff, Nat.reduceSub, Nat.reduceMul, Nat.reduceAdd]
  refine cond_split (fun h => ?_) (fun h => ?_)
  · simp -implicitDefEqProofs only [S0, S1, S2, S3, S4, S5, S6, S7, S8, S9, S10, S11, S12, S13, S14, S15, opv, opvs, eget, env0, setD, lenStr, lenSl, isNilP, isNilS, putAt, if_true, if_false, reduceCtorEq, Nat.reduceLeDiff, Nat.reduceEqDiff, Nat.reduceSub, Nat.reduceMul, Nat.reduceAdd]
    simp only [decide_eq_true_eq] at h
    exact fin (by omega) (by omega)
  simp only [decide_eq_false_iff_not, Int.not_lt] at h
  replace hs1 := hs1 h
  simp -implicitDefEqProofs only [S0, S1, S2, S3, S4, S5, S6, S7, S8, S9, S10, S11, S12, S13, S14, S15, opv, opvs, eget, env0, setD, lenStr, lenSl, isNilP, isNilS, putAt, if_true, if_false, reduceCtorEq, Nat.reduceLeDiff, Nat.reduceEqDiff, Nat.reduceSub, Nat.reduceMul, Nat.reduceAdd]
  exact fin (by omega) (fun _ => by omega)
theorem szHallHouse_x {n0} {n1} (left : Int) (σ : Store) (b0 : T.is (.sl 2 shGateTeam) n0) (b1 : T.is (.sl 7 shGateGrant) n1) (h0 : 0 ≤ left) (h1 : left ≤ 1048576) : ACalls Try.prog 16 [.agg [.t n0, .t n1], .t (.int .i64 left)] σ (SzR (T.sizeL [n0, n1]) left σ) := by
  have h := szHallHouse [n0, n1] left σ (mkHallHouse b0 b1) h0 h1
  exact h
def c_laws_eqHallHouse : C := (.seq (.ops [⟨(some 2), none, (.box (.t 0))⟩, ⟨(some 3), none, (.box (.t 1))⟩, ⟨(some 4), none, (.mv (.c (.t (.bool false))))⟩]) (.seq (.seq (.ops [⟨(some 5), none, (.fieldAddr 0 (.t 2))⟩, ⟨(some 6), none, (.load none (.t 5))⟩, ⟨(some 7), none, (.fieldAddr 0 (.t 3))⟩, ⟨(some 8), none, (.load none (.t 7))⟩, ⟨(some 9), none, (.call (.c (.fn (.func 35) [])) [(.t 6), (.t 8)])⟩, ⟨(some 10), none, (.un .not (.t 9))⟩]) (.cond (.t 10) (.seq (.ops [⟨(some 4), none, (.mv (.c (.t (.bool false))))⟩]) .ret) .skip)) (.seq (.seq (.ops [⟨(some 11), none, (.fieldAddr 1 (.t 2))⟩, ⟨(some 12), none, (.load none (.t 11))⟩, ⟨(some 13), none, (.fieldAddr 1 (.t 3))⟩, ⟨(some 14), none, (.load none (.t 13))⟩, ⟨(some 15), none, (.call (.c (.fn (.func 36) [])) [(.t 12), (.t 14)])⟩, ⟨(some 16), none, (.un .not (.t 15))⟩]) (.cond (.t 16) (.seq (.ops [⟨(some 4), none, (.mv (.c (.t (.bool false))))⟩]) .ret) .skip)) (.seq (.ops [⟨(some 4), none, (.mv (.c (.t (.bool true))))⟩]) .ret))))
theorem k_laws_eqHallHouse : comp Try.prog 17 (Try.f20.body.getD .skip) = some c_laws_eqHallHouse := by kernel_rfl

theorem eqHallHouse : EqLOk Try.prog 20 shHallHouse := by
  rintro ts σ ht h1
  obtain ⟨n0, n1, rfl, b0, b1⟩ := isHallHouse ht
  rw [sizeHallHouse] at h1
  refine acalls_of Try.func20 (by decide +kernel) (code := Try.f20.body.getD .skip) (n := 17) (c := c_laws_eqHallHouse) (rs := [(.tmp 4)]) rfl rfl k_laws_eqHallHouse (by kernel_rfl) (by simp) (fun hσ => ?_)
  simp -implicitDefEqProofs only [c_laws_eqHallHouse, ne_self, beq_self_eq_true, S0, S1, S2, S3, S4, S5, S6, S7, S8, S9, S10, S11, S12, S13, S14, S15, opv, opvs, eget, env0, setD, lenStr, lenSl, isNilP, isNilS, putAt, if_true, if_false, reduceCtorEq, Nat.reduceLeDiff, Nat.reduceEqDiff, Nat.reduceSub, Nat.reduceMul, Nat.reduceAdd]
  refine call_pure (eqGateTeamS n0 _ b0 (by omega)) ?_
  simp -implicitDefEqProofs only [ne_self, beq_self_eq_true, S0, S1, S2, S3, S4, S5, S6, S7, S8, S9, S10, S11, S12, S13, S14, S15, opv, opvs, eget, env0, setD, lenStr, lenSl, isNilP, isNilS, putAt, if_true, if_false, reduceCtorEq, Nat.reduceLeDiff, Nat.reduceEqDiff, Nat.reduceSub, Nat.reduceMul, Nat.reduceAdd]
  refine call_pure (eqGateGrantS n1 _ b1 (by omega)) ?_
  simp -implicitDefEqProofs only [ne_self, beq_self_eq_true, S0, S1, S2, S3, S4, S5, S6, S7, S8, S9, S10, S11, S12, S13, S14, S15, opv, opvs, eget, env0, setD, lenStr, lenSl, isNilP, isNilS, putAt, if_true, if_false, reduceCtorEq, Nat.reduceLeDiff, Nat.reduceEqDiff, Nat.reduceSub, Nat.reduceMul, Nat.reduceAdd]
  exact ret_same rfl hσ rfl ⟨rfl, rfl⟩
theorem eqHallHouse_x {n0} {n1} (σ : Store) (b0 : T.is (.sl 2 shGateTeam) n0) (b1 : T.is (.sl 7 shGateGrant) n1) (hz : n0.size + n1.size ≤ 1099511627776) : ACalls Try.prog 20 [.agg [.t n0, .t n1], .agg [.t n0, .t n1]] σ (TrueR σ) := by
  have h := eqHallHouse [n0, n1] σ (mkHallHouse b0 b1) (by rw [sizeHallHouse]; omega)
  exact h
def c_laws_toHallHouse : C := (.seq (.ops [⟨(some 1), none, (.box (.t 0))⟩, ⟨(some 2), none, (.new [.nils, .nils])⟩]) (.seq (.ops [⟨(some 3), none, (.new [.nils, .nils])⟩]) (.seq (.ops [⟨(some 4), none, (.fieldAddr 0 (.t 1))⟩, ⟨(some 5), none, (.load none (.t 4))⟩, ⟨(some 6), none, (.call (.c (.fn (.func 31) [])) [(.t 5)])⟩, ⟨(some 7), none, (.fieldAddr 0 (.t 3))⟩, ⟨none, none, (.store 1 (.t 7) (.t 6))⟩]) (.seq (.ops [⟨(some 8), none, (.fieldAddr 1 (.t 1))⟩, ⟨(some 9), none, (.load none (.t 8))⟩, ⟨(some 10), none, (.call (.c (.fn (.func 32) [])) [(.t 9)])⟩, ⟨(some 11), none, (.fieldAddr 1 (.t 3))⟩, ⟨none, none, (.store 1 (.t 11) (.t 10))⟩]) (.seq (.ops [⟨(some 12), none, (.load (some 2) (.t 3))⟩, ⟨none, none, (.store 2 (.t 2) (.t 12))⟩]) .ret)))))
theorem k_laws_toHallHouse : comp Try.prog 13 (Try.f18.body.getD .skip) = some c_laws_toHallHouse := by kernel_rfl

theorem toHallHouse : ToLOk Try.prog 18 shHallHouse := by
  rintro ts σ ht h1
  obtain ⟨n0, n1, rfl, b0, b1⟩ := isHallHouse ht
  rw [sizeHallHouse] at h1
  refine acalls_of Try.func18 (by decide +kernel) (code := Try.f18.body.getD .skip) (n := 13) (c := c_laws_toHallHouse) (rs := [(.cell 2 (some 2))]) rfl rfl k_laws_toHallHouse (by kernel_rfl) (by simp) (fun hσ => ?_)
  simp -implicitDefEqProofs only [c_laws_toHallHouse, S0, S1, S2, S3, S4, S5, S6, S7, S8, S9, S10, S11, S12, S13, S14, S15, opv, opvs, eget, env0, setD, lenStr, lenSl, isNilP, isNilS, putAt, if_true, if_false, reduceCtorEq, Nat.reduceLeDiff, Nat.reduceEqDiff, Nat.reduceSub, Nat.reduceMul, Nat.reduceAdd]
  refine call_by (by rw [List.append_nil]; exact toGateTeamS n0 _ b0 (by omega)) ?_
  rintro u0 σ' ⟨τ0, j0, rfl, o0, w0⟩
  have e0 := o0.one
  simp -implicitDefEqProofs only [one_cells e0, e0, S0, S1, S2, S3, S4, S5, S6, S7, S8, S9, S10, S11, S12, S13, S14, S15, opv, opvs, eget, env0, setD, lenStr, lenSl, isNilP, isNilS, putAt, if_true, if_false, reduceCtorEq, Nat.reduceLeDiff, Nat.reduceEqDiff, Nat.reduceSub, Nat.reduceMul, Nat.reduceAdd]
  refine call_by (by rw [List.append_nil]; exact toGateGrantS n1 _ b1 (by omega)) ?_
  rintro u1 σ' ⟨τ1, j1, rfl, o1, w1⟩
  have e1 := o1.one
  simp -implicitDefEqProofs only [one_cells e1, e0, e1, S0, S1, S2, S3, S4, S5, S6, S7, S8, S9, S10, S11, S12, S13, S14, S15, opv, opvs, eget, env0, setD, lenStr, lenSl, isNilP, isNilS, putAt, if_true, if_false, reduceCtorEq, Nat.reduceLeDiff, Nat.reduceEqDiff, Nat.reduceSub, Nat.reduceMul, Nat.reduceAdd]
  refine fin_keep (by simp) ⟨_, _, (j0 ++ (j1 ++ [])), rfl, rfl, (OwnL.lst (own_pre (A := [_, _, _]) (A' := [_, _, _]) (B := τ0) (B' := (τ0 ++ τ1)) o0 w0 (List.append_assoc ..) rfl rfl (by simp) (by simp)) (OwnL.lst (own_pre (A := [_, _, _]) (A' := [_, _, _]) (B := (τ0 ++ τ1)) (B' := (τ0 ++ τ1)) o1 w1 (List.append_assoc ..) rfl rfl (by simp) (by simp)) OwnL.nil0)), ?_⟩
  simp only [List.length_append, List.length_cons, List.length_nil] at w0 w1 ⊢
  refine Wi.mono (a := σ.length) ?_ (Nat.le_refl _) (Nat.le_refl _)
  exact wi_more w0 (wi_last w1 (by omega) (by omega)) (by omega) (by omega)
theorem toHallHouse_x {n0} {n1} (σ : Store) (b0 : T.is (.sl 2 shGateTeam) n0) (b1 : T.is (.sl 7 shGateGrant) n1) (hz : n0.size + n1.size ≤ 1048576) : ACalls Try.prog 18 [.agg [.t n0, .t n1]] σ (ToLR [n0, n1] σ) := by
  have h := toHallHouse [n0, n1] σ (mkHallHouse b0 b1) (by rw [sizeHallHouse]; omega)
  exact h
def shDesk : List Sh := [.str, .str, .str, .str]
theorem isDesk {ts : List T} (ht : T.isL shDesk ts) : ∃ n0 n1 n2 n3, ts = [(.str n0), (.str n1), (.str n2), (.str n3)] ∧ n0.length ≤ maxLen ∧ n1.length ≤ maxLen ∧ n2.length ≤ maxLen ∧ n3.length ≤ maxLen := by
  simp only [shDesk, isL_cons, isL_nil, is_int, is_bool, is_str] at ht
  obtain ⟨_, _, rfl, ⟨n0, rfl, b0⟩, _, _, rfl, ⟨n1, rfl, b1⟩, _, _, rfl, ⟨n2, rfl, b2⟩, _, _, rfl, ⟨n3, rfl, b3⟩, rfl⟩ := ht
  exact ⟨_, _, _, _, rfl, b0, b1, b2, b3⟩
theorem mkDesk {n0} {n1} {n2} {n3} (b0 : n0.length ≤ maxLen) (b1 : n1.length ≤ maxLen) (b2 : n2.length ≤ maxLen) (b3 : n3.length ≤ maxLen) : T.isL shDesk [(.str n0), (.str n1), (.str n2), (.str n3)] := by
  simp only [shDesk, isL_cons, isL_nil, is_int, is_bool, is_str]
  exact ⟨_, _, rfl, ⟨_, rfl, b0⟩, _, _, rfl, ⟨_, rfl, b1⟩, _, _, rfl, ⟨_, rfl, b2⟩, _, _, rfl, ⟨_, rfl, b3⟩, rfl⟩
theorem sizeDesk {n0} {n1} {n2} {n3} : T.sizeL [(.str n0), (.str n1), (.str n2), (.str n3)] = n0.length + n1.length + n2.length + n3.length := by
  simp only [sizeL_cons, sizeL_nil, size_int, size_bool, size_str]
  try omega
def c_laws_szDesk : C := (.seq (.ops [⟨(some 2), none, (.box (.t 0))⟩, ⟨(some 4), none, (.mv (.c (.t (.int .i64 0))))⟩]) (.seq (.ops [⟨(some 5), none, (.mv (.t 1))⟩, ⟨(some 6), none, (.fieldAddr 0 (.t 2))⟩, ⟨(some 7), none, (.load none (.t 6))⟩, ⟨(some 8), none, (.len true (.t 7))⟩, ⟨(some 9), none, (.bin .sub (.t 5) (.t 8))⟩, ⟨(some 1), none, (.mv (.t 9))⟩]) (.seq (.seq (.ops [⟨(some 10), none, (.mv (.t 1))⟩, ⟨(some 11), none, (.bin .lss (.t 10) (.c (.t (.int .i64 0))))⟩]) (.cond (.t 11) (.seq (.ops [⟨(some 4), none, (.mv (.c (.t (.int .i64 (-1)))))⟩]) .ret) .skip)) (.seq (.ops [⟨(some 12), none, (.mv (.t 1))⟩, ⟨(some 13), none, (.fieldAddr 1 (.t 2))⟩, ⟨(some 14), none, (.load none (.t 13))⟩, ⟨(some 15), none, (.len true (.t 14))⟩, ⟨(some 16), none, (.bin .sub (.t 12) (.t 15))⟩, ⟨(some 1), none, (.mv (.t 16))⟩]) (.seq (.seq (.ops [⟨(some 17), none, (.mv (.t 1))⟩, ⟨(some 18), none, (.bin .lss (.t 17) (.c (.t (.int .i64 0))))⟩]) (.cond (.t 18) (.seq (.ops [⟨(some 4), none, (.mv (.c (.t (.int .i64 (-1)))))⟩]) .ret) .skip)) (.seq (.ops [⟨(some 19), none, (.mv (.t 1))⟩, ⟨(some 20), none, (.fieldAddr 2 (.t 2))⟩, ⟨(some 21), none, (.load none (.t 20))⟩, ⟨(some 22), none, (.len true (.t 21))⟩, ⟨(some 23), none, (.bin .sub (.t 19) (.t 22))⟩, ⟨(some 1), none, (.mv (.t 23))⟩]) (.seq (.seq (.ops [⟨(some 24), none, (.mv (.t 1))⟩, ⟨(some 25), none, (.bin .lss (.t 24) (.c (.t (.int .i64 0))))⟩]) (.cond (.t 25) (.seq (.ops [⟨(some 4), none, (.mv (.c (.t (.int .i64 (-1)))))⟩]) .ret) .skip)) (.seq (.ops [⟨(some 26), none, (.mv (.t 1))⟩, ⟨(some 27), none, (.fieldAddr 3 (.t 2))⟩, ⟨(some 28), none, (.load none (.t 27))⟩, ⟨(some 29), none, (.len true (.t 28))⟩, ⟨(some 30), none, (.bin .sub (.t 26) (.t 29))⟩, ⟨(some 1), none, (.mv (.t 30))⟩]) (.seq (.seq (.ops [⟨(some 31), none, (.mv (.t 1))⟩, ⟨(some 32), none, (.bin .lss (.t 31) (.c (.t (.int .i64 0))))⟩]) (.cond (.t 32) (.seq (.ops [⟨(some 4), none, (.mv (.c (.t (.int .i64 (-1)))))⟩]) .ret) .skip)) (.seq (.ops [⟨(some 33), none, (.mv (.t 1))⟩, ⟨(some 4), none, (.mv (.t 33))⟩]) .ret))))))))))
theorem k_laws_szDesk : comp Try.prog 34 (Try.f7.body.getD .skip) = some c_laws_szDesk := by kernel_rfl

theorem szDesk : SzLOk Try.prog 7 shDesk := by
  rintro ts left σ ht h0 h1
  obtain ⟨n0, n1, n2, n3, rfl, b0, b1, b2, b3⟩ := isDesk ht
  refine acalls_of Try.func7 (by decide +kernel) (code := Try.f7.body.getD .skip) (n := 34) (c := c_laws_szDesk) (rs := [(.tmp 4)]) rfl rfl k_laws_szDesk (by kernel_rfl) (by simp) (fun hσ => ?_)
  try simp only [maxLen] at *
  have fin : ∀ {n : Int} {τ : Store}, n ≤ left → (0 ≤ n → ((n0.length + n1.length + n2.length + n3.length : Nat) : Int) + n ≤ left) → retV σ.length (SzR (T.sizeL [(.str n0), (.str n1), (.str n2), (.str n3)]) left σ) (σ ++ τ) (some [.t (.int .i64 n)]) := fun h h' => ret_same rfl hσ rfl ⟨⟨_, rfl, h, fun h0 => by have := h' h0; rw [sizeDesk]; exact this⟩, rfl⟩
  have w0 : IntKind.i64.wrap (left - n0.length) = left - n0.length := IntWalk.i64_in _ (by omega)
  simp -implicitDefEqProofs only [c_laws_szDesk, w0, S0, S1, S2, S3, S4, S5, S6, S7, S8, S9, S10, S11, S12, S13, S14, S15, opv, opvs, eget, env0, setD, lenStr, lenSl, isNilP, isNilS, putAt, if_true, if_false, reduceCtorEq, Nat.reduceLeDiff, Nat.reduceEqDiff, Nat.reduceSub, Nat.reduceMul, Nat.reduceAdd]
  refine cond_split (fun h => ?_) (fun h => ?_)
  · simp -implicitDefEqProofs only [S0, S1, S2, S3, S4, S5, S6, S7, S8, S9, S10, S11, S12, S13, S14, S15, opv, opvs, eget, env0, setD, lenStr, lenSl, isNilP, isNilS, putAt, if_true, if_false, reduceCtorEq, Nat.reduceLeDiff, Nat.reduceEqDiff, Nat.reduceSub, Nat.reduceMul, Nat.reduceAdd]
    simp only [decide_eq_true_eq] at h
    exact fin (by omega) (by omega)
  simp only [decide_eq_false_iff_not, Int.not_lt] at h
  have w1 : IntKind.i64.wrap ((left - n0.length) - n1.length) = (left - n0.length) - n1.length := IntWalk.i64_in _ (by omega)
  simp -implicitDefEqProofs only [w1, S0, S1, S2, S3, S4, S5, S6, S7, S8, S9, S10, S11, S12, S13, S14, S15, opv, opvs, eget, env0, setD, lenStr, lenSl, isNilP, isNilS, putAt, if_true, if_false, reduceCtorEq, Nat.reduceLeDiff, Nat.reduceEqDiff, Nat.reduceSub, Nat.reduceMul, Nat.reduceAdd]
  refine cond_split (fun h => ?_) (fun h => ?_)
  · simp -implicitDefEqProofs only [S0, S1, S2, S3, S4, S5, S6, S7, S8, S9, S10, S11, S12, S13, S14, S15, opv, opvs, eget, env0, setD, lenStr, lenSl, isNilP, isNilS, putAt, if_true, if_false, reduceCtorEq, Nat.reduceLeDiff, Nat.reduceEqDiff, Nat.reduceSub, Nat.reduceMul, Nat.reduceAdd]
    simp only [decide_eq_true_eq] at h
    exact fin (by omega) (by omega)
  simp only [decide_eq_false_iff_not, Int.not_lt] at h
  have w2 : IntKind.i64.wrap (((left - n0.length) - n1.length) - n2.length) = ((left - n0.length) - n1.length) - n2.length := IntWalk.i64_in _ (by omega)
  simp -implicitDefEqProofs only [w2, S0, S1, S2, S3, S4, S5, S6, S7, S8, S9, S10, S11, S12, S13, S14, S15, opv, opvs, eget, env0, setD, lenStr, lenSl, isNilP, isNilS, putAt, if_true, if_false, reduceCtorEq, Nat.reduceLeDiff, Nat.reduceEqDiff, Nat.reduceSub, Nat.reduceMul, Nat.reduceAdd]
  refine cond_split (fun h => ?_) (fun h => ?_)
  · simp -implicitDefEqProofs only [S0, S1, S2, S3, S4, S5, S6, S7, S8, S9, S10, S11, S12, S13, S14, S15, opv, opvs, eget, env0, setD, lenStr, lenSl, isNilP, isNilS, putAt, if_true, if_false, reduceCtorEq, Nat.reduceLeDiff, Nat.reduceEqDiff, Nat.reduceSub, Nat.reduceMul, Nat.reduceAdd]
    simp only [decide_eq_true_eq] at h
    exact fin (by omega) (by omega)
  simp only [decide_eq_false_iff_not, Int.not_lt] at h
  have w3 : IntKind.i64.wrap ((((left - n0.length) - n1.length) - n2.length) - n3.length) = (((left - n0.length) - n1.length) - n2.length) - n3.length := IntWalk.i64_in _ (by omega)
  simp -implicitDefEqProofs only [w3, S0, S1, S2, S3, S4, S5, S6, S7, S8, S9, S10, S11, S12, S13, S14, S15, opv, opvs, eget, env0, setD, lenStr, lenSl, isNilP, isNilS, putAt, if_true, if_false, reduceCtorEq, Nat.reduceLeDiff, Nat.reduceEqDiff, Nat.reduceSub, Nat.reduceMul, Nat.reduceAdd]
  refine cond_split (fun h => ?_) (fun h => ?_)
  · simp -implicitDefEqProofs only [S0, S1, S2, S3, S4, S5, S6, S7, S8, S9, S10, S11, S12, S13, S14, S15, opv, opvs, eget, env0, setD, lenStr, lenSl, isNilP, isNilS, putAt, if_true, if_false, reduceCtorEq, Nat.reduceLeDiff, Nat.reduceEqDiff, Nat.reduceSub, Nat.reduceMul, Nat.reduceAdd]
    simp only [decide_eq_true_eq] at h
    exact fin (by omega) (by omega)
  simp only [decide_eq_false_iff_not, Int.not_lt] at h
  simp -implicitDefEqProofs only [S0, S1, S2, S3, S4, S5, S6, S7, S8, S9, S10, S11, S12, S13, S14, S15, opv, opvs, eget, env0, setD, lenStr, lenSl, isNilP, isNilS, putAt, if_true, if_false, reduceCtorEq, Nat.reduceLeDiff, Nat.reduceEqDiff, Nat.reduceSub, Nat.reduceMul, Nat.reduceAdd]
  exact fin (by omega) (fun _ => by omega)
theorem szDesk_x {n0} {n1} {n2} {n3} (left : Int) (σ : Store) (b0 : n0.length ≤ maxLen) (b1 : n1.length ≤ maxLen) (b2 : n2.length ≤ maxLen) (b3 : n3.length ≤ maxLen) (h0 : 0 ≤ left) (h1 : left ≤ 1048576) : ACalls Try.prog 7 [.agg [.t (.str n0), .t (.str n1), .t (.str n2), .t (.str n3)], .t (.int .i64 left)] σ (SzR (T.sizeL [(.str n0), (.str n1), (.str n2), (.str n3)]) left σ) := by
  have h := szDesk [(.str n0), (.str n1), (.str n2), (.str n3)] left σ (mkDesk b0 b1 b2 b3) h0 h1
  exact h
def c_laws_eqDesk : C := (.seq (.ops [⟨(some 2), none, (.box (.t 0))⟩, ⟨(some 3), none, (.box (.t 1))⟩, ⟨(some 4), none, (.mv (.c (.t (.bool false))))⟩]) (.seq (.seq (.ops [⟨(some 5), none, (.fieldAddr 0 (.t 2))⟩, ⟨(some 6), none, (.load none (.t 5))⟩, ⟨(some 7), none, (.fieldAddr 0 (.t 3))⟩, ⟨(some 8), none, (.load none (.t 7))⟩, ⟨(some 9), none, (.bin .neq (.t 6) (.t 8))⟩]) (.cond (.t 9) (.seq (.ops [⟨(some 4), none, (.mv (.c (.t (.bool false))))⟩]) .ret) .skip)) (.seq (.seq (.ops [⟨(some 10), none, (.fieldAddr 1 (.t 2))⟩, ⟨(some 11), none, (.load none (.t 10))⟩, ⟨(some 12), none, (.fieldAddr 1 (.t 3))⟩, ⟨(some 13), none, (.load none (.t 12))⟩, ⟨(some 14), none, (.bin .neq (.t 11) (.t 13))⟩]) (.cond (.t 14) (.seq (.ops [⟨(some 4), none, (.mv (.c (.t (.bool false))))⟩]) .ret) .skip)) (.seq (.seq (.ops [⟨(some 15), none, (.fieldAddr 2 (.t 2))⟩, ⟨(some 16), none, (.load none (.t 15))⟩, ⟨(some 17), none, (.fieldAddr 2 (.t 3))⟩, ⟨(some 18), none, (.load none (.t 17))⟩, ⟨(some 19), none, (.bin .neq (.t 16) (.t 18))⟩]) (.cond (.t 19) (.seq (.ops [⟨(some 4), none, (.mv (.c (.t (.bool false))))⟩]) .ret) .skip)) (.seq (.seq (.ops [⟨(some 20), none, (.fieldAddr 3 (.t 2))⟩, ⟨(some 21), none, (.load none (.t 20))⟩, ⟨(some 22), none, (.fieldAddr 3 (.t 3))⟩, ⟨(some 23), none, (.load none (.t 22))⟩, ⟨(some 24), none, (.bin .neq (.t 21) (.t 23))⟩]) (.cond (.t 24) (.seq (.ops [⟨(some 4), none, (.mv (.c (.t (.bool false))))⟩]) .ret) .skip)) (.seq (.ops [⟨(some 4), none, (.mv (.c (.t (.bool true))))⟩]) .ret))))))
theorem k_laws_eqDesk : comp Try.prog 25 (Try.f26.body.getD .skip) = some c_laws_eqDesk := by kernel_rfl

theorem eqDesk : EqLOk Try.prog 26 shDesk := by
  rintro ts σ ht h1
  obtain ⟨n0, n1, n2, n3, rfl, b0, b1, b2, b3⟩ := isDesk ht
  rw [sizeDesk] at h1
  refine acalls_of Try.func26 (by decide +kernel) (code := Try.f26.body.getD .skip) (n := 25) (c := c_laws_eqDesk) (rs := [(.tmp 4)]) rfl rfl k_laws_eqDesk (by kernel_rfl) (by simp) (fun hσ => ?_)
  simp -implicitDefEqProofs only [c_laws_eqDesk, ne_self, beq_self_eq_true, S0, S1, S2, S3, S4, S5, S6, S7, S8, S9, S10, S11, S12, S13, S14, S15, opv, opvs, eget, env0, setD, lenStr, lenSl, isNilP, isNilS, putAt, if_true, if_false, reduceCtorEq, Nat.reduceLeDiff, Nat.reduceEqDiff, Nat.reduceSub, Nat.reduceMul, Nat.reduceAdd]
  exact ret_same rfl hσ rfl ⟨rfl, rfl⟩
theorem eqDesk_x {n0} {n1} {n2} {n3} (σ : Store) (b0 : n0.length ≤ maxLen) (b1 : n1.length ≤ maxLen) (b2 : n2.length ≤ maxLen) (b3 : n3.length ≤ maxLen) (hz : n0.length + n1.length + n2.length + n3.length ≤ 1099511627776) : ACalls Try.prog 26 [.agg [.t (.str n0), .t (.str n1), .t (.str n2), .t (.str n3)], .agg [.t (.str n0), .t (.str n1), .t (.str n2), .t (.str n3)]] σ (TrueR σ) := by
  have h := eqDesk [(.str n0), (.str n1), (.str n2), (.str n3)] σ (mkDesk b0 b1 b2 b3) (by rw [sizeDesk]; omega)
  exact h
def c_laws_toDesk : C := (.seq (.ops [⟨(some 1), none, (.box (.t 0))⟩, ⟨(some 2), none, (.new [(.t (.str [])), (.t (.str [])), (.t (.str [])), (.t (.str []))])⟩]) (.seq (.ops [⟨(some 3), none, (.new [(.t (.str [])), (.t (.str [])), (.t (.str [])), (.t (.str []))])⟩]) (.seq (.ops [⟨(some 4), none, (.fieldAddr 0 (.t 1))⟩, ⟨(some 5), none, (.load none (.t 4))⟩, ⟨(some 6), none, (.fieldAddr 0 (.t 3))⟩, ⟨none, none, (.store 1 (.t 6) (.t 5))⟩]) (.seq (.ops [⟨(some 7), none, (.fieldAddr 1 (.t 1))⟩, ⟨(some 8), none, (.load none (.t 7))⟩, ⟨(some 9), none, (.fieldAddr 1 (.t 3))⟩, ⟨none, none, (.store 1 (.t 9) (.t 8))⟩]) (.seq (.ops [⟨(some 10), none, (.fieldAddr 2 (.t 1))⟩, ⟨(some 11), none, (.load none (.t 10))⟩, ⟨(some 12), none, (.fieldAddr 2 (.t 3))⟩, ⟨none, none, (.store 1 (.t 12) (.t 11))⟩]) (.seq (.ops [⟨(some 13), none, (.fieldAddr 3 (.t 1))⟩, ⟨(some 14), none, (.load none (.t 13))⟩, ⟨(some 15), none, (.fieldAddr 3 (.t 3))⟩, ⟨none, none, (.store 1 (.t 15) (.t 14))⟩]) (.seq (.ops [⟨(some 16), none, (.load (some 4) (.t 3))⟩, ⟨none, none, (.store 4 (.t 2) (.t 16))⟩]) .ret)))))))
theorem k_laws_toDesk : comp Try.prog 17 (Try.f9.body.getD .skip) = some c_laws_toDesk := by kernel_rfl

theorem toDesk : ToLOk Try.prog 9 shDesk := by
  rintro ts σ ht h1
  obtain ⟨n0, n1, n2, n3, rfl, b0, b1, b2, b3⟩ := isDesk ht
  rw [sizeDesk] at h1
  refine acalls_of Try.func9 (by decide +kernel) (code := Try.f9.body.getD .skip) (n := 17) (c := c_laws_toDesk) (rs := [(.cell 2 (some 4))]) rfl rfl k_laws_toDesk (by kernel_rfl) (by simp) (fun hσ => ?_)
  simp -implicitDefEqProofs only [c_laws_toDesk, S0, S1, S2, S3, S4, S5, S6, S7, S8, S9, S10, S11, S12, S13, S14, S15, opv, opvs, eget, env0, setD, lenStr, lenSl, isNilP, isNilS, putAt, if_true, if_false, reduceCtorEq, Nat.reduceLeDiff, Nat.reduceEqDiff, Nat.reduceSub, Nat.reduceMul, Nat.reduceAdd]
  exact fin_keep (by simp) ⟨_, _, [], rfl, rfl, (OwnL.str (OwnL.str (OwnL.str (OwnL.str OwnL.nil0)))), Wi.nil⟩
theorem toDesk_x {n0} {n1} {n2} {n3} (σ : Store) (b0 : n0.length ≤ maxLen) (b1 : n1.length ≤ maxLen) (b2 : n2.length ≤ maxLen) (b3 : n3.length ≤ maxLen) (hz : n0.length + n1.length + n2.length + n3.length ≤ 1048576) : ACalls Try.prog 9 [.agg [.t (.str n0), .t (.str n1), .t (.str n2), .t (.str n3)]] σ (ToLR [(.str n0), (.str n1), (.str n2), (.str n3)] σ) := by
  have h := toDesk [(.str n0), (.str n1), (.str n2), (.str n3)] σ (mkDesk b0 b1 b2 b3) (by rw [sizeDesk]; omega)
  exact h
theorem i_szDeskS : Is Try.prog 11 27 [(.tmp 4)] (tSzS 4 7) := ⟨_, _, Try.func11, by decide +kernel, rfl, rfl, by kernel_rfl, rfl⟩
theorem szDeskS : SzOk Try.prog 11 (.sl 4 shDesk) := szS_ok rfl i_szDeskS szDesk
theorem i_eqDeskS : Is Try.prog 15 27 [(.tmp 4)] (tEqS 4 26) := ⟨_, _, Try.func15, by decide +kernel, rfl, rfl, by kernel_rfl, rfl⟩
theorem eqDeskS : EqOk Try.prog 15 (.sl 4 shDesk) := eqS_ok rfl i_eqDeskS eqDesk
theorem i_toDeskS : Is Try.prog 13 23 [(.tmp 2)] (tToS 4 64 9 [.t (.str []), .t (.str []), .t (.str []), .t (.str [])]) := ⟨_, _, Try.func13, by decide +kernel, rfl, rfl, by kernel_rfl, rfl⟩
theorem toDeskS : ToOk Try.prog 13 (.sl 4 shDesk) := toS_ok 64 [.t (.str []), .t (.str []), .t (.str []), .t (.str [])] rfl (by decide) rfl (by decide) i_toDeskS toDesk
end Go.Proofs.Ytbbhhndbhioacaa.W

end


section
open Go Go.Ab
namespace Go.Proofs.Ytbbhhndbhioacaa.W
structure GateTeam where
  Name : List UInt8
  Over : List UInt8
def GateTeam.ts (x : GateTeam) : List T := [.str x.Name, .str x.Over]
abbrev GateTeam.vs (x : GateTeam) : List V := [.t (.str x.Name), .t (.str x.Over)]
theorem GateTeam.vs_ts (x : GateTeam) : x.ts.map V.t = x.vs := rfl
structure GateTeam.Ok (x : GateTeam) : Prop where
  Name : x.Name.length ≤ 1048576
  Over : x.Over.length ≤ 1048576
abbrev tGateTeamS (l : List GateTeam) : T := .lst 2 (l.map GateTeam.ts)
abbrev GateTeam.OkS (l : List GateTeam) : Prop := l.length ≤ 1048576 ∧ ∀ y ∈ l, y.Ok
theorem of_GateTeam {ts : List T} (h : T.isL shGateTeam ts) : ∃ x : GateTeam, ts = x.ts ∧ (T.sizeL ts ≤ 1048576 → x.Ok) := by
  obtain ⟨n0, n1, rfl, b0, b1⟩ := isGateTeam h
  refine ⟨⟨n0, n1⟩, rfl, fun hz => ?_⟩
  rw [sizeGateTeam] at hz
  exact ⟨by simp only; omega, by simp only; omega⟩
theorem of_GateTeamS {t : T} (h : T.is (.sl 2 shGateTeam) t) : ∃ l : List GateTeam, t = .lst 2 (l.map GateTeam.ts) ∧ (t.size ≤ 1048576 → GateTeam.OkS l) := of_list (fun ts h => of_GateTeam h) h
structure GateRule where
  Verbs : List Int
  Kind : List UInt8
  Team : List UInt8
  Prefix : List UInt8
def GateRule.ts (x : GateRule) : List T := [.lst 1 (x.Verbs.map tInt), .str x.Kind, .str x.Team, .str x.Prefix]
abbrev GateRule.vs (x : GateRule) : List V := [.t (.lst 1 (x.Verbs.map tInt)), .t (.str x.Kind), .t (.str x.Team), .t (.str x.Prefix)]
theorem GateRule.vs_ts (x : GateRule) : x.ts.map V.t = x.vs := rfl
structure GateRule.Ok (x : GateRule) : Prop where
  Verbs : IntsOk x.Verbs
  Kind : x.Kind.length ≤ 1048576
  Team : x.Team.length ≤ 1048576
  Prefix : x.Prefix.length ≤ 1048576
abbrev tGateRuleS (l : List GateRule) : T := .lst 4 (l.map GateRule.ts)
abbrev GateRule.OkS (l : List GateRule) : Prop := l.length ≤ 1048576 ∧ ∀ y ∈ l, y.Ok
theorem of_GateRule {ts : List T} (h : T.isL shGateRule ts) : ∃ x : GateRule, ts = x.ts ∧ (T.sizeL ts ≤ 1048576 → x.Ok) := by
  obtain ⟨n0, n1, n2, n3, rfl, b0, b1, b2, b3⟩ := isGateRule h
  obtain ⟨l0, rfl, c0⟩ := of_ints b0
  refine ⟨⟨l0, n1, n2, n3⟩, rfl, fun hz => ?_⟩
  rw [sizeGateRule] at hz
  exact ⟨c0 (by omega), by simp only; omega, by simp only; omega, by simp only; omega⟩
theorem of_GateRuleS {t : T} (h : T.is (.sl 4 shGateRule) t) : ∃ l : List GateRule, t = .lst 4 (l.map GateRule.ts) ∧ (t.size ≤ 1048576 → GateRule.OkS l) := of_list (fun ts h => of_GateRule h) h
structure GateGrant where
  Number : Int
  To : List UInt8
  By : List UInt8
  Rule : GateRule
def GateGrant.ts (x : GateGrant) : List T := [.int .i64 x.Number, .str x.To, .str x.By, .lst 1 (x.Rule.Verbs.map tInt), .str x.Rule.Kind, .str x.Rule.Team, .str x.Rule.Prefix]
abbrev GateGrant.vs (x : GateGrant) : List V := [.t (.int .i64 x.Number), .t (.str x.To), .t (.str x.By), .t (.lst 1 (x.Rule.Verbs.map tInt)), .t (.str x.Rule.Kind), .t (.str x.Rule.Team), .t (.str x.Rule.Prefix)]
theorem GateGrant.vs_ts (x : GateGrant) : x.ts.map V.t = x.vs := rfl
structure GateGrant.Ok (x : GateGrant) : Prop where
  Number : i64r x.Number
  To : x.To.length ≤ 1048576
  By : x.By.length ≤ 1048576
  Rule : GateRule.Ok x.Rule
abbrev tGateGrantS (l : List GateGrant) : T := .lst 7 (l.map GateGrant.ts)
abbrev GateGrant.OkS (l : List GateGrant) : Prop := l.length ≤ 1048576 ∧ ∀ y ∈ l, y.Ok
theorem of_GateGrant {ts : List T} (h : T.isL shGateGrant ts) : ∃ x : GateGrant, ts = x.ts ∧ (T.sizeL ts ≤ 1048576 → x.Ok) := by
  obtain ⟨n0, n1, n2, n3, n4, n5, n6, rfl, b0, b1, b2, b3, b4, b5, b6⟩ := isGateGrant h
  obtain ⟨l3, rfl, c3⟩ := of_ints b3
  refine ⟨⟨n0, n1, n2, ⟨l3, n4, n5, n6⟩⟩, rfl, fun hz => ?_⟩
  rw [sizeGateGrant] at hz
  exact ⟨wf_i64 b0, by simp only; omega, by simp only; omega, ⟨c3 (by omega), by simp only; omega, by simp only; omega, by simp only; omega⟩⟩
theorem of_GateGrantS {t : T} (h : T.is (.sl 7 shGateGrant) t) : ∃ l : List GateGrant, t = .lst 7 (l.map GateGrant.ts) ∧ (t.size ≤ 1048576 → GateGrant.OkS l) := of_list (fun ts h => of_GateGrant h) h
structure HallHouse where
  Teams : List GateTeam
  Grants : List GateGrant
def HallHouse.ts (x : HallHouse) : List T := [.lst 2 (x.Teams.map GateTeam.ts), .lst 7 (x.Grants.map GateGrant.ts)]
abbrev HallHouse.vs (x : HallHouse) : List V := [.t (.lst 2 (x.Teams.map GateTeam.ts)), .t (.lst 7 (x.Grants.map GateGrant.ts))]
theorem HallHouse.vs_ts (x : HallHouse) : x.ts.map V.t = x.vs := rfl
structure HallHouse.Ok (x : HallHouse) : Prop where
  Teams : GateTeam.OkS x.Teams
  Grants : GateGrant.OkS x.Grants
abbrev tHallHouseS (l : List HallHouse) : T := .lst 2 (l.map HallHouse.ts)
abbrev HallHouse.OkS (l : List HallHouse) : Prop := l.length ≤ 1048576 ∧ ∀ y ∈ l, y.Ok
theorem of_HallHouse {ts : List T} (h : T.isL shHallHouse ts) : ∃ x : HallHouse, ts = x.ts ∧ (T.sizeL ts ≤ 1048576 → x.Ok) := by
  obtain ⟨n0, n1, rfl, b0, b1⟩ := isHallHouse h
  obtain ⟨l0, rfl, c0⟩ := of_GateTeamS b0
  obtain ⟨l1, rfl, c1⟩ := of_GateGrantS b1
  refine ⟨⟨l0, l1⟩, rfl, fun hz => ?_⟩
  rw [sizeHallHouse] at hz
  exact ⟨c0 (by omega), c1 (by omega)⟩
theorem of_HallHouseS {t : T} (h : T.is (.sl 2 shHallHouse) t) : ∃ l : List HallHouse, t = .lst 2 (l.map HallHouse.ts) ∧ (t.size ≤ 1048576 → HallHouse.OkS l) := of_list (fun ts h => of_HallHouse h) h
structure Desk where
  Who : List UInt8
  Door : List UInt8
  Prefix : List UInt8
  Text : List UInt8
def Desk.ts (x : Desk) : List T := [.str x.Who, .str x.Door, .str x.Prefix, .str x.Text]
abbrev Desk.vs (x : Desk) : List V := [.t (.str x.Who), .t (.str x.Door), .t (.str x.Prefix), .t (.str x.Text)]
theorem Desk.vs_ts (x : Desk) : x.ts.map V.t = x.vs := rfl
structure Desk.Ok (x : Desk) : Prop where
  Who : x.Who.length ≤ 1048576
  Door : x.Door.length ≤ 1048576
  Prefix : x.Prefix.length ≤ 1048576
  Text : x.Text.length ≤ 1048576
abbrev tDeskS (l : List Desk) : T := .lst 4 (l.map Desk.ts)
abbrev Desk.OkS (l : List Desk) : Prop := l.length ≤ 1048576 ∧ ∀ y ∈ l, y.Ok
theorem of_Desk {ts : List T} (h : T.isL shDesk ts) : ∃ x : Desk, ts = x.ts ∧ (T.sizeL ts ≤ 1048576 → x.Ok) := by
  obtain ⟨n0, n1, n2, n3, rfl, b0, b1, b2, b3⟩ := isDesk h
  refine ⟨⟨n0, n1, n2, n3⟩, rfl, fun hz => ?_⟩
  rw [sizeDesk] at hz
  exact ⟨by simp only; omega, by simp only; omega, by simp only; omega, by simp only; omega⟩
theorem of_DeskS {t : T} (h : T.is (.sl 4 shDesk) t) : ∃ l : List Desk, t = .lst 4 (l.map Desk.ts) ∧ (t.size ≤ 1048576 → Desk.OkS l) := of_list (fun ts h => of_Desk h) h
end Go.Proofs.Ytbbhhndbhioacaa.W

end
