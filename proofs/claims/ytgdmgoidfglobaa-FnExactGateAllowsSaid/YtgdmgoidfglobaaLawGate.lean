/- What the laws' own helpers do with these structs: sizes, copies, comparing (printed by laws.py). Conditions: none. -/
import Derived.Test.YtgdmgoidfglobaaAb3
import Derived.IntWalk
import Derived.Test.YtgdmgoidfglobaaProg
import Derived.KernelRfl
set_option linter.unusedSimpArgs false
set_option linter.unusedVariables false
set_option linter.defProp false
open Go Go.Ab
set_option maxHeartbeats 2000000
namespace Go.Proofs.Ytgdmgoidfglobaa.W
theorem i_szStringS : Is Try.prog 85 28 [(.tmp 4)] (tSzStr) := ⟨_, _, Try.func85, by decide +kernel, rfl, rfl, by kernel_rfl, rfl⟩
theorem szStringS : SzOk Try.prog 85 (.sl 1 [.str]) := szStr_ok i_szStringS
theorem i_szIntS : Is Try.prog 92 12 [(.tmp 4)] (tSzInt) := ⟨_, _, Try.func92, by decide +kernel, rfl, rfl, by kernel_rfl, rfl⟩
theorem szIntS : SzOk Try.prog 92 (.sl 1 [.int .i64]) := szInt_ok i_szIntS
theorem i_eqStringS : Is Try.prog 91 26 [(.tmp 4)] (tEq1) := ⟨_, _, Try.func91, by decide +kernel, rfl, rfl, by kernel_rfl, rfl⟩
theorem eqStringS : EqOk Try.prog 91 (.sl 1 [.str]) := eqStr_ok i_eqStringS
theorem i_eqIntS : Is Try.prog 98 26 [(.tmp 4)] (tEq1) := ⟨_, _, Try.func98, by decide +kernel, rfl, rfl, by kernel_rfl, rfl⟩
theorem eqIntS : EqOk Try.prog 98 (.sl 1 [.int .i64]) := eqInt_ok i_eqIntS
theorem i_toStringS : Is Try.prog 89 22 [(.tmp 2)] (tTo1 16 [.t (.str [])]) := ⟨_, _, Try.func89, by decide +kernel, rfl, rfl, by kernel_rfl, rfl⟩
theorem toStringS : ToOk Try.prog 89 (.sl 1 [.str]) := to1_ok 16 [.t (.str [])] sc_str rfl (by decide) i_toStringS
theorem i_toIntS : Is Try.prog 95 22 [(.tmp 2)] (tTo1 8 [.t (.int .i64 0)]) := ⟨_, _, Try.func95, by decide +kernel, rfl, rfl, by kernel_rfl, rfl⟩
theorem toIntS : ToOk Try.prog 95 (.sl 1 [.int .i64]) := to1_ok 8 [.t (.int .i64 0)] sc_int rfl (by decide) i_toIntS
def shGateTeam : List Sh := [.str, .str]
theorem isGateTeam {ts : List T} (ht : T.isL shGateTeam ts) : ∃ n0 n1, ts = [(.str n0), (.str n1)] ∧ n0.length ≤ maxLen ∧ n1.length ≤ maxLen := by
  simp only [shGateTeam, isL_cons, isL_nil, is_int, is_bool, is_str] at ht
  obtain ⟨_, _, rfl, ⟨n0, rfl, b0⟩, _, _, rfl, ⟨n1, rfl, b1⟩, rfl⟩ := ht
  exact ⟨_, _, rfl, b0, b1⟩
theorem mkGateTeam {n0} {n1} (b0 : n0.length ≤ maxLen) (b1 : n1.length ≤ maxLen) : T.isL shGateTeam [(.str n0), (.str n1)] := by
  simp only [shGateTeam, isL_cons, isL_nil, is_int, is_bool, is_str]
  exact ⟨_, _, rfl, ⟨_, rfl, b0⟩, _, _, rfl, ⟨_, rfl, b1⟩, rfl⟩
theorem sizeGateTeam {n0} {n1} : T.sizeL [(.str n0), (.str n1)] = n0.length + n1.length := by
  simp only [sizeL_cons, sizeL_nil, size_int, size_bool, size_str]
  try omega
def c_laws_szGateTeam : C := (.seq (.ops [⟨(some 2), none, (.box (.t 0))⟩, ⟨(some 4), none, (.mv (.c (.t (.int .i64 0))))⟩]) (.seq (.ops [⟨(some 5), none, (.mv (.t 1))⟩, ⟨(some 6), none, (.fieldAddr 0 (.t 2))⟩, ⟨(some 7), none, (.load none (.t 6))⟩, ⟨(some 8), none, (.len true (.t 7))⟩, ⟨(some 9), none, (.bin .sub (.t 5) (.t 8))⟩, ⟨(some 1), none, (.mv (.t 9))⟩]) (.seq (.seq (.ops [⟨(some 10), none, (.mv (.t 1))⟩, ⟨(some 11), none, (.bin .lss (.t 10) (.c (.t (.int .i64 0))))⟩]) (.cond (.t 11) (.seq (.ops [⟨(some 4), none, (.mv (.c (.t (.int .i64 (-1)))))⟩]) .ret) .skip)) (.seq (.ops [⟨(some 12), none, (.mv (.t 1))⟩, ⟨(some 13), none, (.fieldAddr 1 (.t 2))⟩, ⟨(some 14), none, (.load none (.t 13))⟩, ⟨(some 15), none, (.len true (.t 14))⟩, ⟨(some 16), none, (.bin .sub (.t 12) (.t 15))⟩, ⟨(some 1), none, (.mv (.t 16))⟩]) (.seq (.seq (.ops [⟨(some 17), none, (.mv (.t 1))⟩, ⟨(some 18), none, (.bin .lss (.t 17) (.c (.t (.int .i64 0))))⟩]) (.cond (.t 18) (.seq (.ops [⟨(some 4), none, (.mv (.c (.t (.int .i64 (-1)))))⟩]) .ret) .skip)) (.seq (.ops [⟨(some 19), none, (.mv (.t 1))⟩, ⟨(some 4), none, (.mv (.t 19))⟩]) .ret))))))
theorem k_laws_szGateTeam : comp Try.prog 20 (Try.f65.body.getD .skip) = some c_laws_szGateTeam := by kernel_rfl

theorem szGateTeam : SzLOk Try.prog 65 shGateTeam := by
  rintro ts left σ ht h0 h1
  obtain ⟨n0, n1, rfl, b0, b1⟩ := isGateTeam ht
  refine acalls_of Try.func65 (by decide +kernel) (code := Try.f65.body.getD .skip) (n := 20) (c := c_laws_szGateTeam) (rs := [(.tmp 4)]) rfl rfl k_laws_szGateTeam (by kernel_rfl) (by simp) (fun hσ => ?_)
  try simp only [maxLen] at *
  have fin : ∀ {n : Int} {τ : Store}, n ≤ left → (0 ≤ n → ((n0.length + n1.length : Nat) : Int) + n ≤ left) → retV σ.length (SzR (T.sizeL [(.str n0), (.str n1)]) left σ) (σ ++ τ) (some [.t (.int .i64 n)]) := fun h h' => ret_same rfl hσ rfl ⟨⟨_, rfl, h, fun h0 => by have := h' h0; rw [sizeGateTeam]; exact this⟩, rfl⟩
  have w0 : IntKind.i64.wrap (left - n0.length) = left - n0.length := IntWalk.i64_in _ (by omega)
  simp -implicitDefEqProofs only [c_laws_szGateTeam, w0, S0, S1, S2, S3, S4, S5, S6, S7, S8, S9, S10, S11, S12, S13, S14, S15, S16, S17, opv, opvs, eget, env0, setD, lenStr, lenSl, isNilP, isNilS, putAt, if_true, if_false, reduceCtorEq, Nat.reduceLeDiff, Nat.reduceEqDiff, Nat.reduceSub, Nat.reduceMul, Nat.reduceAdd]
  refine cond_split (fun h => ?_) (fun h => ?_)
  · simp -implicitDefEqProofs only [S0, S1, S2, S3, S4, S5, S6, S7, S8, S9, S10, S11, S12, S13, S14, S15, S16, S17, opv, opvs, eget, env0, setD, lenStr, lenSl, isNilP, isNilS, putAt, if_true, if_false, reduceCtorEq, Nat.reduceLeDiff, Nat.reduceEqDiff, Nat.reduceSub, Nat.reduceMul, Nat.reduceAdd]
    simp only [decide_eq_true_eq] at h
    exact fin (by omega) (by omega)
  simp only [decide_eq_false_iff_not, Int.not_lt] at h
  have w1 : IntKind.i64.wrap ((left - n0.length) - n1.length) = (left - n0.length) - n1.length := IntWalk.i64_in _ (by omega)
  simp -implicitDefEqProofs only [w1, S0, S1, S2, S3, S4, S5, S6, S7, S8, S9, S10, S11, S12, S13, S14, S15, S16, S17, opv, opvs, eget, env0, setD, lenStr, lenSl, isNilP, isNilS, putAt, if_true, if_false, reduceCtorEq, Nat.reduceLeDiff, Nat.reduceEqDiff, Nat.reduceSub, Nat.reduceMul, Nat.reduceAdd]
  refine cond_split (fun h => ?_) (fun h => ?_)
  · simp -implicitDefEqProofs only [S0, S1, S2, S3, S4, S5, S6, S7, S8, S9, S10, S11, S12, S13, S14, S15, S16, S17, opv, opvs, eget, env0, setD, lenStr, lenSl, isNilP, isNilS, putAt, if_true, if_false, reduceCtorEq, Nat.reduceLeDiff, Nat.reduceEqDiff, Nat.reduceSub, Nat.reduceMul, Nat.reduceAdd]
    simp only [decide_eq_true_eq] at h
    exact fin (by omega) (by omega)
  simp only [decide_eq_false_iff_not, Int.not_lt] at h
  simp -implicitDefEqProofs only [S0, S1, S2, S3, S4, S5, S6, S7, S8, S9, S10, S11, S12, S13, S14, S15, S16, S17, opv, opvs, eget, env0, setD, lenStr, lenSl, isNilP, isNilS, putAt, if_true, if_false, reduceCtorEq, Nat.reduceLeDiff, Nat.reduceEqDiff, Nat.reduceSub, Nat.reduceMul, Nat.reduceAdd]
  exact fin (by omega) (fun _ => by omega)
theorem szGateTeam_x {n0} {n1} (left : Int) (σ : Store) (b0 : n0.length ≤ maxLen) (b1 : n1.length ≤ maxLen) (h0 : 0 ≤ left) (h1 : left ≤ 1048576) : ACalls Try.prog 65 [.agg [.t (.str n0), .t (.str n1)], .t (.int .i64 left)] σ (SzR (T.sizeL [(.str n0), (.str n1)]) left σ) := by
  have h := szGateTeam [(.str n0), (.str n1)] left σ (mkGateTeam b0 b1) h0 h1
  exact h
def c_laws_eqGateTeam : C := (.seq (.ops [⟨(some 2), none, (.box (.t 0))⟩, ⟨(some 3), none, (.box (.t 1))⟩, ⟨(some 4), none, (.mv (.c (.t (.bool false))))⟩]) (.seq (.seq (.ops [⟨(some 5), none, (.fieldAddr 0 (.t 2))⟩, ⟨(some 6), none, (.load none (.t 5))⟩, ⟨(some 7), none, (.fieldAddr 0 (.t 3))⟩, ⟨(some 8), none, (.load none (.t 7))⟩, ⟨(some 9), none, (.bin .neq (.t 6) (.t 8))⟩]) (.cond (.t 9) (.seq (.ops [⟨(some 4), none, (.mv (.c (.t (.bool false))))⟩]) .ret) .skip)) (.seq (.seq (.ops [⟨(some 10), none, (.fieldAddr 1 (.t 2))⟩, ⟨(some 11), none, (.load none (.t 10))⟩, ⟨(some 12), none, (.fieldAddr 1 (.t 3))⟩, ⟨(some 13), none, (.load none (.t 12))⟩, ⟨(some 14), none, (.bin .neq (.t 11) (.t 13))⟩]) (.cond (.t 14) (.seq (.ops [⟨(some 4), none, (.mv (.c (.t (.bool false))))⟩]) .ret) .skip)) (.seq (.ops [⟨(some 4), none, (.mv (.c (.t (.bool true))))⟩]) .ret))))
theorem k_laws_eqGateTeam : comp Try.prog 15 (Try.f69.body.getD .skip) = some c_laws_eqGateTeam := by kernel_rfl

theorem eqGateTeam : EqLOk Try.prog 69 shGateTeam := by
  rintro ts σ ht h1
  obtain ⟨n0, n1, rfl, b0, b1⟩ := isGateTeam ht
  rw [sizeGateTeam] at h1
  refine acalls_of Try.func69 (by decide +kernel) (code := Try.f69.body.getD .skip) (n := 15) (c := c_laws_eqGateTeam) (rs := [(.tmp 4)]) rfl rfl k_laws_eqGateTeam (by kernel_rfl) (by simp) (fun hσ => ?_)
  simp -implicitDefEqProofs only [c_laws_eqGateTeam, ne_self, beq_self_eq_true, S0, S1, S2, S3, S4, S5, S6, S7, S8, S9, S10, S11, S12, S13, S14, S15, S16, S17, opv, opvs, eget, env0, setD, lenStr, lenSl, isNilP, isNilS, putAt, if_true, if_false, reduceCtorEq, Nat.reduceLeDiff, Nat.reduceEqDiff, Nat.reduceSub, Nat.reduceMul, Nat.reduceAdd]
  exact ret_same rfl hσ rfl ⟨rfl, rfl⟩
theorem eqGateTeam_x {n0} {n1} (σ : Store) (b0 : n0.length ≤ maxLen) (b1 : n1.length ≤ maxLen) (hz : n0.length + n1.length ≤ 1099511627776) : ACalls Try.prog 69 [.agg [.t (.str n0), .t (.str n1)], .agg [.t (.str n0), .t (.str n1)]] σ (TrueR σ) := by
  have h := eqGateTeam [(.str n0), (.str n1)] σ (mkGateTeam b0 b1) (by rw [sizeGateTeam]; omega)
  exact h
def c_laws_toGateTeam : C := (.seq (.ops [⟨(some 1), none, (.box (.t 0))⟩, ⟨(some 2), none, (.new [(.t (.str [])), (.t (.str []))])⟩]) (.seq (.ops [⟨(some 3), none, (.new [(.t (.str [])), (.t (.str []))])⟩]) (.seq (.ops [⟨(some 4), none, (.fieldAddr 0 (.t 1))⟩, ⟨(some 5), none, (.load none (.t 4))⟩, ⟨(some 6), none, (.fieldAddr 0 (.t 3))⟩, ⟨none, none, (.store 1 (.t 6) (.t 5))⟩]) (.seq (.ops [⟨(some 7), none, (.fieldAddr 1 (.t 1))⟩, ⟨(some 8), none, (.load none (.t 7))⟩, ⟨(some 9), none, (.fieldAddr 1 (.t 3))⟩, ⟨none, none, (.store 1 (.t 9) (.t 8))⟩]) (.seq (.ops [⟨(some 10), none, (.load (some 2) (.t 3))⟩, ⟨none, none, (.store 2 (.t 2) (.t 10))⟩]) .ret)))))
theorem k_laws_toGateTeam : comp Try.prog 11 (Try.f67.body.getD .skip) = some c_laws_toGateTeam := by kernel_rfl

theorem toGateTeam : ToLOk Try.prog 67 shGateTeam := by
  rintro ts σ ht h1
  obtain ⟨n0, n1, rfl, b0, b1⟩ := isGateTeam ht
  rw [sizeGateTeam] at h1
  refine acalls_of Try.func67 (by decide +kernel) (code := Try.f67.body.getD .skip) (n := 11) (c := c_laws_toGateTeam) (rs := [(.cell 2 (some 2))]) rfl rfl k_laws_toGateTeam (by kernel_rfl) (by simp) (fun hσ => ?_)
  simp -implicitDefEqProofs only [c_laws_toGateTeam, S0, S1, S2, S3, S4, S5, S6, S7, S8, S9, S10, S11, S12, S13, S14, S15, S16, S17, opv, opvs, eget, env0, setD, lenStr, lenSl, isNilP, isNilS, putAt, if_true, if_false, reduceCtorEq, Nat.reduceLeDiff, Nat.reduceEqDiff, Nat.reduceSub, Nat.reduceMul, Nat.reduceAdd]
  exact fin_keep (by simp) ⟨_, _, [], rfl, rfl, (OwnL.str (OwnL.str OwnL.nil0)), Wi.nil⟩
theorem toGateTeam_x {n0} {n1} (σ : Store) (b0 : n0.length ≤ maxLen) (b1 : n1.length ≤ maxLen) (hz : n0.length + n1.length ≤ 1048576) : ACalls Try.prog 67 [.agg [.t (.str n0), .t (.str n1)]] σ (ToLR [(.str n0), (.str n1)] σ) := by
  have h := toGateTeam [(.str n0), (.str n1)] σ (mkGateTeam b0 b1) (by rw [sizeGateTeam]; omega)
  exact h
theorem i_szGateTeamS : Is Try.prog 13 27 [(.tmp 4)] (tSzS 2 65) := ⟨_, _, Try.func13, by decide +kernel, rfl, rfl, by kernel_rfl, rfl⟩
theorem szGateTeamS : SzOk Try.prog 13 (.sl 2 shGateTeam) := szS_ok rfl i_szGateTeamS szGateTeam
theorem i_eqGateTeamS : Is Try.prog 17 27 [(.tmp 4)] (tEqS 2 69) := ⟨_, _, Try.func17, by decide +kernel, rfl, rfl, by kernel_rfl, rfl⟩
theorem eqGateTeamS : EqOk Try.prog 17 (.sl 2 shGateTeam) := eqS_ok rfl i_eqGateTeamS eqGateTeam
theorem i_toGateTeamS : Is Try.prog 15 23 [(.tmp 2)] (tToS 2 32 67 [.t (.str []), .t (.str [])]) := ⟨_, _, Try.func15, by decide +kernel, rfl, rfl, by kernel_rfl, rfl⟩
theorem toGateTeamS : ToOk Try.prog 15 (.sl 2 shGateTeam) := toS_ok 32 [.t (.str []), .t (.str [])] rfl (by decide) rfl (by decide) i_toGateTeamS toGateTeam
def shGateRule : List Sh := [.sl 1 [.int .i64], .str, .str, .str]
theorem isGateRule {ts : List T} (ht : T.isL shGateRule ts) : ∃ n0 n1 n2 n3, ts = [n0, (.str n1), (.str n2), (.str n3)] ∧ T.is (.sl 1 [.int .i64]) n0 ∧ n1.length ≤ maxLen ∧ n2.length ≤ maxLen ∧ n3.length ≤ maxLen := by
  simp only [shGateRule, isL_cons, isL_nil, is_int, is_bool, is_str] at ht
  obtain ⟨n0, _, rfl, b0, _, _, rfl, ⟨n1, rfl, b1⟩, _, _, rfl, ⟨n2, rfl, b2⟩, _, _, rfl, ⟨n3, rfl, b3⟩, rfl⟩ := ht
  exact ⟨_, _, _, _, rfl, b0, b1, b2, b3⟩
theorem mkGateRule {n0} {n1} {n2} {n3} (b0 : T.is (.sl 1 [.int .i64]) n0) (b1 : n1.length ≤ maxLen) (b2 : n2.length ≤ maxLen) (b3 : n3.length ≤ maxLen) : T.isL shGateRule [n0, (.str n1), (.str n2), (.str n3)] := by
  simp only [shGateRule, isL_cons, isL_nil, is_int, is_bool, is_str]
  exact ⟨_, _, rfl, b0, _, _, rfl, ⟨_, rfl, b1⟩, _, _, rfl, ⟨_, rfl, b2⟩, _, _, rfl, ⟨_, rfl, b3⟩, rfl⟩
theorem sizeGateRule {n0} {n1} {n2} {n3} : T.sizeL [n0, (.str n1), (.str n2), (.str n3)] = n0.size + n1.length + n2.length + n3.length := by
  simp only [sizeL_cons, sizeL_nil, size_int, size_bool, size_str]
  try omega
def c_laws_szGateRule : C := (.seq (.ops [⟨(some 2), none, (.box (.t 0))⟩, ⟨(some 4), none, (.mv (.c (.t (.int .i64 0))))⟩]) (.seq (.ops [⟨(some 5), none, (.fieldAddr 0 (.t 2))⟩, ⟨(some 6), none, (.load none (.t 5))⟩, ⟨(some 7), none, (.mv (.t 1))⟩, ⟨(some 8), none, (.call (.c (.fn (.func 92) [])) [(.t 6), (.t 7)])⟩, ⟨(some 1), none, (.mv (.t 8))⟩]) (.seq (.seq (.ops [⟨(some 9), none, (.mv (.t 1))⟩, ⟨(some 10), none, (.bin .lss (.t 9) (.c (.t (.int .i64 0))))⟩]) (.cond (.t 10) (.seq (.ops [⟨(some 4), none, (.mv (.c (.t (.int .i64 (-1)))))⟩]) .ret) .skip)) (.seq (.ops [⟨(some 11), none, (.mv (.t 1))⟩, ⟨(some 12), none, (.fieldAddr 1 (.t 2))⟩, ⟨(some 13), none, (.load none (.t 12))⟩, ⟨(some 14), none, (.len true (.t 13))⟩, ⟨(some 15), none, (.bin .sub (.t 11) (.t 14))⟩, ⟨(some 1), none, (.mv (.t 15))⟩]) (.seq (.seq (.ops [⟨(some 16), none, (.mv (.t 1))⟩, ⟨(some 17), none, (.bin .lss (.t 16) (.c (.t (.int .i64 0))))⟩]) (.cond (.t 17) (.seq (.ops [⟨(some 4), none, (.mv (.c (.t (.int .i64 (-1)))))⟩]) .ret) .skip)) (.seq (.ops [⟨(some 18), none, (.mv (.t 1))⟩, ⟨(some 19), none, (.fieldAddr 2 (.t 2))⟩, ⟨(some 20), none, (.load none (.t 19))⟩, ⟨(some 21), none, (.len true (.t 20))⟩, ⟨(some 22), none, (.bin .sub (.t 18) (.t 21))⟩, ⟨(some 1), none, (.mv (.t 22))⟩]) (.seq (.seq (.ops [⟨(some 23), none, (.mv (.t 1))⟩, ⟨(some 24), none, (.bin .lss (.t 23) (.c (.t (.int .i64 0))))⟩]) (.cond (.t 24) (.seq (.ops [⟨(some 4), none, (.mv (.c (.t (.int .i64 (-1)))))⟩]) .ret) .skip)) (.seq (.ops [⟨(some 25), none, (.mv (.t 1))⟩, ⟨(some 26), none, (.fieldAddr 3 (.t 2))⟩, ⟨(some 27), none, (.load none (.t 26))⟩, ⟨(some 28), none, (.len true (.t 27))⟩, ⟨(some 29), none, (.bin .sub (.t 25) (.t 28))⟩, ⟨(some 1), none, (.mv (.t 29))⟩]) (.seq (.seq (.ops [⟨(some 30), none, (.mv (.t 1))⟩, ⟨(some 31), none, (.bin .lss (.t 30) (.c (.t (.int .i64 0))))⟩]) (.cond (.t 31) (.seq (.ops [⟨(some 4), none, (.mv (.c (.t (.int .i64 (-1)))))⟩]) .ret) .skip)) (.seq (.ops [⟨(some 32), none, (.mv (.t 1))⟩, ⟨(some 4), none, (.mv (.t 32))⟩]) .ret))))))))))
theorem k_laws_szGateRule : comp Try.prog 33 (Try.f33.body.getD .skip) = some c_laws_szGateRule := by kernel_rfl

theorem szGateRule : SzLOk Try.prog 33 shGateRule := by
  rintro ts left σ ht h0 h1
  obtain ⟨n0, n1, n2, n3, rfl, b0, b1, b2, b3⟩ := isGateRule ht
  refine acalls_of Try.func33 (by decide +kernel) (code := Try.f33.body.getD .skip) (n := 33) (c := c_laws_szGateRule) (rs := [(.tmp 4)]) rfl rfl k_laws_szGateRule (by kernel_rfl) (by simp) (fun hσ => ?_)
  try simp only [maxLen] at *
  have fin : ∀ {n : Int} {τ : Store}, n ≤ left → (0 ≤ n → ((n0.size + n1.length + n2.length + n3.length : Nat) : Int) + n ≤ left) → retV σ.length (SzR (T.sizeL [n0, (.str n1), (.str n2), (.str n3)]) left σ) (σ ++ τ) (some [.t (.int .i64 n)]) := fun h h' => ret_same rfl hσ rfl ⟨⟨_, rfl, h, fun h0 => by have := h' h0; rw [sizeGateRule]; exact this⟩, rfl⟩
  simp -implicitDefEqProofs only [c_laws_szGateRule, S0, S1, S2, S3, S4, S5, S6, S7, S8, S9, S10, S11, S12, S13, S14, S15, S16, S17, opv, opvs, eget, env0, setD, lenStr, lenSl, isNilP, isNilS, putAt, if_true, if_false, reduceCtorEq, Nat.reduceLeDiff, Nat.reduceEqDiff, Nat.reduceSub, Nat.reduceMul, Nat.reduceAdd]
  refine call_by (by rw [List.append_nil]; exact szIntS n0 left _ b0 (by omega) (by omega)) ?_
  rintro r σ' ⟨⟨m0, rfl, hm0, hs0⟩, rfl⟩
  try simp only [sizeGateRule] at hs0
  simp -implicitDefEqProofs only [S0, S1, S2, S3, S4, S5, S6, S7, S8, S9, S10, S11, S12, S13, S14, S15, S16, S17, opv, opvs, eget, env0, setD, lenStr, lenSl, isNilP, isNilS, putAt, if_true, if_false, reduceCtorEq, Nat.reduceLeDiff, Nat.reduceEqDiff, Nat.reduceSub, Nat.reduceMul, Nat.reduceAdd]
  refine cond_split (fun h => ?_) (fun h => ?_)
  · simp -implicitDefEqProofs only [S0, S1, S2, S3, S4, S5, S6, S7, S8, S9, S10, S11, S12, S13, S14, S15, S16, S17, opv, opvs, eget, env0, setD, lenStr, lenSl, isNilP, isNilS, putAt, if_true, if_false, reduceCtorEq, Nat.reduceLeDiff, Nat.reduceEqDiff, Nat.reduceSub, Nat.reduceMul, Nat.reduceAdd]
    simp only [decide_eq_true_eq] at h
    exact fin (by omega) (by omega)
  simp only [decide_eq_false_iff_not, Int.not_lt] at h
  replace hs0 := hs0 h
  have w1 : IntKind.i64.wrap (m0 - n1.length) = m0 - n1.length := IntWalk.i64_in _ (by omega)
  simp -implicitDefEqProofs only [w1, S0, S1, S2, S3, S4, S5, S6, S7, S8, S9, S10, S11, S12, S13, S14, S15, S16, S17, opv, opvs, eget, env0, setD, lenStr, lenSl, isNilP, isNilS, putAt, if_true, if_false, reduceCtorEq, Nat.reduceLeDiff, Nat.reduceEqDiff, Nat.reduceSub, Nat.reduceMul, Nat.reduceAdd]
  refine cond_split (fun h => ?_) (fun h => ?_)
  · simp -implicitDefEqProofs only [S0, S1, S2, S3, S4, S5, S6, S7, S8, S9, S10, S11, S12, S13, S14, S15, S16, S17, opv, opvs, eget, env0, setD, lenStr, lenSl, isNilP, isNilS, putAt, if_true, if_false, reduceCtorEq, Nat.reduceLeDiff, Nat.reduceEqDiff, Nat.reduceSub, Nat.reduceMul, Nat.reduceAdd]
    simp only [decide_eq_true_eq] at h
    exact fin (by omega) (by omega)
  simp only [decide_eq_false_iff_not, Int.not_lt] at h
  have w2 : IntKind.i64.wrap ((m0 - n1.length) - n2.length) = (m0 - n1.length) - n2.length := IntWalk.i64_in _ (by omega)
  simp -implicitDefEqProofs only [w2, S0, S1, S2, S3, S4, S5, S6, S7, S8, S9, S10, S11, S12, S13, S14, S15, S16, S17, opv, opvs, eget, env0, setD, lenStr, lenSl, isNilP, isNilS, putAt, if_true, if_false, reduceCtorEq, Nat.reduceLeDiff, Nat.reduceEqDiff, Nat.reduceSub, Nat.reduceMul, Nat.reduceAdd]
  refine cond_split (fun h => ?_) (fun h => ?_)
  · simp -implicitDefEqProofs only [S0, S1, S2, S3, S4, S5, S6, S7, S8, S9, S10, S11, S12, S13, S14, S15, S16, S17, opv, opvs, eget, env0, setD, lenStr, lenSl, isNilP, isNilS, putAt, if_true, if_false, reduceCtorEq, Nat.reduceLeDiff, Nat.reduceEqDiff, Nat.reduceSub, Nat.reduceMul, Nat.reduceAdd]
    simp only [decide_eq_true_eq] at h
    exact fin (by omega) (by omega)
  simp only [decide_eq_false_iff_not, Int.not_lt] at h
  have w3 : IntKind.i64.wrap (((m0 - n1.length) - n2.length) - n3.length) = ((m0 - n1.length) - n2.length) - n3.length := IntWalk.i64_in _ (by omega)
  simp -implicitDefEqProofs only [w3, S0, S1, S2, S3, S4, S5, S6, S7, S8, S9, S10, S11, S12, S13, S14, S15, S16, S17, opv, opvs, eget, env0, setD, lenStr, lenSl, isNilP, isNilS, putAt, if_true, if_false, reduceCtorEq, Nat.reduceLeDiff, Nat.reduceEqDiff, Nat.reduceSub, Nat.reduceMul, Nat.reduceAdd]
  refine cond_split (fun h => ?_) (fun h => ?_)
  · simp -implicitDefEqProofs only [S0, S1, S2, S3, S4, S5, S6, S7, S8, S9, S10, S11, S12, S13, S14, S15, S16, S17, opv, opvs, eget, env0, setD, lenStr, lenSl, isNilP, isNilS, putAt, if_true, if_false, reduceCtorEq, Nat.reduceLeDiff, Nat.reduceEqDiff, Nat.reduceSub, Nat.reduceMul, Nat.reduceAdd]
    simp only [decide_eq_true_eq] at h
    exact fin (by omega) (by omega)
  simp only [decide_eq_false_iff_not, Int.not_lt] at h
  simp -implicitDefEqProofs only [S0, S1, S2, S3, S4, S5, S6, S7, S8, S9, S10, S11, S12, S13, S14, S15, S16, S17, opv, opvs, eget, env0, setD, lenStr, lenSl, isNilP, isNilS, putAt, if_true, if_false, reduceCtorEq, Nat.reduceLeDiff, Nat.reduceEqDiff, Nat.reduceSub, Nat.reduceMul, Nat.reduceAdd]
  exact fin (by omega) (fun _ => by omega)
theorem szGateRule_x {n0} {n1} {n2} {n3} (left : Int) (σ : Store) (b0 : T.is (.sl 1 [.int .i64]) n0) (b1 : n1.length ≤ maxLen) (b2 : n2.length ≤ maxLen) (b3 : n3.length ≤ maxLen) (h0 : 0 ≤ left) (h1 : left ≤ 1048576) : ACalls Try.prog 33 [.agg [.t n0, .t (.str n1), .t (.str n2), .t (.str n3)], .t (.int .i64 left)] σ (SzR (T.sizeL [n0, (.str n1), (.str n2), (.str n3)]) left σ) := by
  have h := szGateRule [n0, (.str n1), (.str n2), (.str n3)] left σ (mkGateRule b0 b1 b2 b3) h0 h1
  exact h
def c_laws_eqGateRule : C := (.seq (.ops [⟨(some 2), none, (.box (.t 0))⟩, ⟨(some 3), none, (.box (.t 1))⟩, ⟨(some 4), none, (.mv (.c (.t (.bool false))))⟩]) (.seq (.seq (.ops [⟨(some 5), none, (.fieldAddr 0 (.t 2))⟩, ⟨(some 6), none, (.load none (.t 5))⟩, ⟨(some 7), none, (.fieldAddr 0 (.t 3))⟩, ⟨(some 8), none, (.load none (.t 7))⟩, ⟨(some 9), none, (.call (.c (.fn (.func 98) [])) [(.t 6), (.t 8)])⟩, ⟨(some 10), none, (.un .not (.t 9))⟩]) (.cond (.t 10) (.seq (.ops [⟨(some 4), none, (.mv (.c (.t (.bool false))))⟩]) .ret) .skip)) (.seq (.seq (.ops [⟨(some 11), none, (.fieldAddr 1 (.t 2))⟩, ⟨(some 12), none, (.load none (.t 11))⟩, ⟨(some 13), none, (.fieldAddr 1 (.t 3))⟩, ⟨(some 14), none, (.load none (.t 13))⟩, ⟨(some 15), none, (.bin .neq (.t 12) (.t 14))⟩]) (.cond (.t 15) (.seq (.ops [⟨(some 4), none, (.mv (.c (.t (.bool false))))⟩]) .ret) .skip)) (.seq (.seq (.ops [⟨(some 16), none, (.fieldAddr 2 (.t 2))⟩, ⟨(some 17), none, (.load none (.t 16))⟩, ⟨(some 18), none, (.fieldAddr 2 (.t 3))⟩, ⟨(some 19), none, (.load none (.t 18))⟩, ⟨(some 20), none, (.bin .neq (.t 17) (.t 19))⟩]) (.cond (.t 20) (.seq (.ops [⟨(some 4), none, (.mv (.c (.t (.bool false))))⟩]) .ret) .skip)) (.seq (.seq (.ops [⟨(some 21), none, (.fieldAddr 3 (.t 2))⟩, ⟨(some 22), none, (.load none (.t 21))⟩, ⟨(some 23), none, (.fieldAddr 3 (.t 3))⟩, ⟨(some 24), none, (.load none (.t 23))⟩, ⟨(some 25), none, (.bin .neq (.t 22) (.t 24))⟩]) (.cond (.t 25) (.seq (.ops [⟨(some 4), none, (.mv (.c (.t (.bool false))))⟩]) .ret) .skip)) (.seq (.ops [⟨(some 4), none, (.mv (.c (.t (.bool true))))⟩]) .ret))))))
theorem k_laws_eqGateRule : comp Try.prog 26 (Try.f39.body.getD .skip) = some c_laws_eqGateRule := by kernel_rfl

theorem eqGateRule : EqLOk Try.prog 39 shGateRule := by
  rintro ts σ ht h1
  obtain ⟨n0, n1, n2, n3, rfl, b0, b1, b2, b3⟩ := isGateRule ht
  rw [sizeGateRule] at h1
  refine acalls_of Try.func39 (by decide +kernel) (code := Try.f39.body.getD .skip) (n := 26) (c := c_laws_eqGateRule) (rs := [(.tmp 4)]) rfl rfl k_laws_eqGateRule (by kernel_rfl) (by simp) (fun hσ => ?_)
  simp -implicitDefEqProofs only [c_laws_eqGateRule, ne_self, beq_self_eq_true, S0, S1, S2, S3, S4, S5, S6, S7, S8, S9, S10, S11, S12, S13, S14, S15, S16, S17, opv, opvs, eget, env0, setD, lenStr, lenSl, isNilP, isNilS, putAt, if_true, if_false, reduceCtorEq, Nat.reduceLeDiff, Nat.reduceEqDiff, Nat.reduceSub, Nat.reduceMul, Nat.reduceAdd]
  refine call_pure (eqIntS n0 _ b0 (by omega)) ?_
  simp -implicitDefEqProofs only [ne_self, beq_self_eq_true, S0, S1, S2, S3, S4, S5, S6, S7, S8, S9, S10, S11, S12, S13, S14, S15, S16, S17, opv, opvs, eget, env0, setD, lenStr, lenSl, isNilP, isNilS, putAt, if_true, if_false, reduceCtorEq, Nat.reduceLeDiff, Nat.reduceEqDiff, Nat.reduceSub, Nat.reduceMul, Nat.reduceAdd]
  exact ret_same rfl hσ rfl ⟨rfl, rfl⟩
theorem eqGateRule_x {n0} {n1} {n2} {n3} (σ : Store) (b0 : T.is (.sl 1 [.int .i64]) n0) (b1 : n1.length ≤ maxLen) (b2 : n2.length ≤ maxLen) (b3 : n3.length ≤ maxLen) (hz : n0.size + n1.length + n2.length + n3.length ≤ 1099511627776) : ACalls Try.prog 39 [.agg [.t n0, .t (.str n1), .t (.str n2), .t (.str n3)], .agg [.t n0, .t (.str n1), .t (.str n2), .t (.str n3)]] σ (TrueR σ) := by
  have h := eqGateRule [n0, (.str n1), (.str n2), (.str n3)] σ (mkGateRule b0 b1 b2 b3) (by rw [sizeGateRule]; omega)
  exact h
def c_laws_toGateRule : C := (.seq (.ops [⟨(some 1), none, (.box (.t 0))⟩, ⟨(some 2), none, (.new [.nils, (.t (.str [])), (.t (.str [])), (.t (.str []))])⟩]) (.seq (.ops [⟨(some 3), none, (.new [.nils, (.t (.str [])), (.t (.str [])), (.t (.str []))])⟩]) (.seq (.ops [⟨(some 4), none, (.fieldAddr 0 (.t 1))⟩, ⟨(some 5), none, (.load none (.t 4))⟩, ⟨(some 6), none, (.call (.c (.fn (.func 95) [])) [(.t 5)])⟩, ⟨(some 7), none, (.fieldAddr 0 (.t 3))⟩, ⟨none, none, (.store 1 (.t 7) (.t 6))⟩]) (.seq (.ops [⟨(some 8), none, (.fieldAddr 1 (.t 1))⟩, ⟨(some 9), none, (.load none (.t 8))⟩, ⟨(some 10), none, (.fieldAddr 1 (.t 3))⟩, ⟨none, none, (.store 1 (.t 10) (.t 9))⟩]) (.seq (.ops [⟨(some 11), none, (.fieldAddr 2 (.t 1))⟩, ⟨(some 12), none, (.load none (.t 11))⟩, ⟨(some 13), none, (.fieldAddr 2 (.t 3))⟩, ⟨none, none, (.store 1 (.t 13) (.t 12))⟩]) (.seq (.ops [⟨(some 14), none, (.fieldAddr 3 (.t 1))⟩, ⟨(some 15), none, (.load none (.t 14))⟩, ⟨(some 16), none, (.fieldAddr 3 (.t 3))⟩, ⟨none, none, (.store 1 (.t 16) (.t 15))⟩]) (.seq (.ops [⟨(some 17), none, (.load (some 4) (.t 3))⟩, ⟨none, none, (.store 4 (.t 2) (.t 17))⟩]) .ret)))))))
theorem k_laws_toGateRule : comp Try.prog 18 (Try.f36.body.getD .skip) = some c_laws_toGateRule := by kernel_rfl

theorem toGateRule : ToLOk Try.prog 36 shGateRule := by
  rintro ts σ ht h1
  obtain ⟨n0, n1, n2, n3, rfl, b0, b1, b2, b3⟩ := isGateRule ht
  rw [sizeGateRule] at h1
  refine acalls_of Try.func36 (by decide +kernel) (code := Try.f36.body.getD .skip) (n := 18) (c := c_laws_toGateRule) (rs := [(.cell 2 (some 4))]) rfl rfl k_laws_toGateRule (by kernel_rfl) (by simp) (fun hσ => ?_)
  simp -implicitDefEqProofs only [c_laws_toGateRule, S0, S1, S2, S3, S4, S5, S6, S7, S8, S9, S10, S11, S12, S13, S14, S15, S16, S17, opv, opvs, eget, env0, setD, lenStr, lenSl, isNilP, isNilS, putAt, if_true, if_false, reduceCtorEq, Nat.reduceLeDiff, Nat.reduceEqDiff, Nat.reduceSub, Nat.reduceMul, Nat.reduceAdd]
  refine call_by (by rw [List.append_nil]; exact toIntS n0 _ b0 (by omega)) ?_
  rintro u0 σ' ⟨τ0, j0, rfl, o0, w0⟩
  have e0 := o0.one
  simp -implicitDefEqProofs only [one_cells e0, e0, S0, S1, S2, S3, S4, S5, S6, S7, S8, S9, S10, S11, S12, S13, S14, S15, S16, S17, opv, opvs, eget, env0, setD, lenStr, lenSl, isNilP, isNilS, putAt, if_true, if_false, reduceCtorEq, Nat.reduceLeDiff, Nat.reduceEqDiff, Nat.reduceSub, Nat.reduceMul, Nat.reduceAdd]
  refine fin_keep (by simp) ⟨_, _, (j0 ++ []), rfl, rfl, (OwnL.lst (own_pre (A := [_, _, _]) (A' := [_, _, _]) (B := τ0) (B' := τ0) o0 w0 (List.append_assoc ..) rfl rfl (by simp) (by simp)) (OwnL.str (OwnL.str (OwnL.str OwnL.nil0)))), ?_⟩
  simp only [List.length_append, List.length_cons, List.length_nil] at w0 ⊢
  refine Wi.mono (a := σ.length) ?_ (Nat.le_refl _) (Nat.le_refl _)
  exact wi_last w0 (by omega) (by omega)
theorem toGateRule_x {n0} {n1} {n2} {n3} (σ : Store) (b0 : T.is (.sl 1 [.int .i64]) n0) (b1 : n1.length ≤ maxLen) (b2 : n2.length ≤ maxLen) (b3 : n3.length ≤ maxLen) (hz : n0.size + n1.length + n2.length + n3.length ≤ 1048576) : ACalls Try.prog 36 [.agg [.t n0, .t (.str n1), .t (.str n2), .t (.str n3)]] σ (ToLR [n0, (.str n1), (.str n2), (.str n3)] σ) := by
  have h := toGateRule [n0, (.str n1), (.str n2), (.str n3)] σ (mkGateRule b0 b1 b2 b3) (by rw [sizeGateRule]; omega)
  exact h
theorem i_szGateRuleS : Is Try.prog 40 27 [(.tmp 4)] (tSzS 4 33) := ⟨_, _, Try.func40, by decide +kernel, rfl, rfl, by kernel_rfl, rfl⟩
theorem szGateRuleS : SzOk Try.prog 40 (.sl 4 shGateRule) := szS_ok rfl i_szGateRuleS szGateRule
theorem i_eqGateRuleS : Is Try.prog 44 27 [(.tmp 4)] (tEqS 4 39) := ⟨_, _, Try.func44, by decide +kernel, rfl, rfl, by kernel_rfl, rfl⟩
theorem eqGateRuleS : EqOk Try.prog 44 (.sl 4 shGateRule) := eqS_ok rfl i_eqGateRuleS eqGateRule
theorem i_toGateRuleS : Is Try.prog 42 23 [(.tmp 2)] (tToS 4 72 36 [.nils, .t (.str []), .t (.str []), .t (.str [])]) := ⟨_, _, Try.func42, by decide +kernel, rfl, rfl, by kernel_rfl, rfl⟩
theorem toGateRuleS : ToOk Try.prog 42 (.sl 4 shGateRule) := toS_ok 72 [.nils, .t (.str []), .t (.str []), .t (.str [])] rfl (by decide) rfl (by decide) i_toGateRuleS toGateRule
def shGateAct : List Sh := [.int .i64, .str, .str, .str]
theorem isGateAct {ts : List T} (ht : T.isL shGateAct ts) : ∃ n0 n1 n2 n3, ts = [(.int .i64 n0), (.str n1), (.str n2), (.str n3)] ∧ (Lit.int .i64 n0).wf = true ∧ n1.length ≤ maxLen ∧ n2.length ≤ maxLen ∧ n3.length ≤ maxLen := by
  simp only [shGateAct, isL_cons, isL_nil, is_int, is_bool, is_str] at ht
  obtain ⟨_, _, rfl, ⟨n0, rfl, b0⟩, _, _, rfl, ⟨n1, rfl, b1⟩, _, _, rfl, ⟨n2, rfl, b2⟩, _, _, rfl, ⟨n3, rfl, b3⟩, rfl⟩ := ht
  exact ⟨_, _, _, _, rfl, b0, b1, b2, b3⟩
theorem mkGateAct {n0} {n1} {n2} {n3} (b0 : (Lit.int .i64 n0).wf = true) (b1 : n1.length ≤ maxLen) (b2 : n2.length ≤ maxLen) (b3 : n3.length ≤ maxLen) : T.isL shGateAct [(.int .i64 n0), (.str n1), (.str n2), (.str n3)] := by
  simp only [shGateAct, isL_cons, isL_nil, is_int, is_bool, is_str]
  exact ⟨_, _, rfl, ⟨_, rfl, b0⟩, _, _, rfl, ⟨_, rfl, b1⟩, _, _, rfl, ⟨_, rfl, b2⟩, _, _, rfl, ⟨_, rfl, b3⟩, rfl⟩
theorem sizeGateAct {n0} {n1} {n2} {n3} : T.sizeL [(.int .i64 n0), (.str n1), (.str n2), (.str n3)] = n1.length + n2.length + n3.length := by
  simp only [sizeL_cons, sizeL_nil, size_int, size_bool, size_str]
  try omega
def c_laws_szGateAct : C := (.seq (.ops [⟨(some 2), none, (.box (.t 0))⟩, ⟨(some 4), none, (.mv (.c (.t (.int .i64 0))))⟩]) (.seq (.ops [⟨(some 5), none, (.mv (.t 1))⟩, ⟨(some 6), none, (.fieldAddr 1 (.t 2))⟩, ⟨(some 7), none, (.load none (.t 6))⟩, ⟨(some 8), none, (.len true (.t 7))⟩, ⟨(some 9), none, (.bin .sub (.t 5) (.t 8))⟩, ⟨(some 1), none, (.mv (.t 9))⟩]) (.seq (.seq (.ops [⟨(some 10), none, (.mv (.t 1))⟩, ⟨(some 11), none, (.bin .lss (.t 10) (.c (.t (.int .i64 0))))⟩]) (.cond (.t 11) (.seq (.ops [⟨(some 4), none, (.mv (.c (.t (.int .i64 (-1)))))⟩]) .ret) .skip)) (.seq (.ops [⟨(some 12), none, (.mv (.t 1))⟩, ⟨(some 13), none, (.fieldAddr 2 (.t 2))⟩, ⟨(some 14), none, (.load none (.t 13))⟩, ⟨(some 15), none, (.len true (.t 14))⟩, ⟨(some 16), none, (.bin .sub (.t 12) (.t 15))⟩, ⟨(some 1), none, (.mv (.t 16))⟩]) (.seq (.seq (.ops [⟨(some 17), none, (.mv (.t 1))⟩, ⟨(some 18), none, (.bin .lss (.t 17) (.c (.t (.int .i64 0))))⟩]) (.cond (.t 18) (.seq (.ops [⟨(some 4), none, (.mv (.c (.t (.int .i64 (-1)))))⟩]) .ret) .skip)) (.seq (.ops [⟨(some 19), none, (.mv (.t 1))⟩, ⟨(some 20), none, (.fieldAddr 3 (.t 2))⟩, ⟨(some 21), none, (.load none (.t 20))⟩, ⟨(some 22), none, (.len true (.t 21))⟩, ⟨(some 23), none, (.bin .sub (.t 19) (.t 22))⟩, ⟨(some 1), none, (.mv (.t 23))⟩]) (.seq (.seq (.ops [⟨(some 24), none, (.mv (.t 1))⟩, ⟨(some 25), none, (.bin .lss (.t 24) (.c (.t (.int .i64 0))))⟩]) (.cond (.t 25) (.seq (.ops [⟨(some 4), none, (.mv (.c (.t (.int .i64 (-1)))))⟩]) .ret) .skip)) (.seq (.ops [⟨(some 26), none, (.mv (.t 1))⟩, ⟨(some 4), none, (.mv (.t 26))⟩]) .ret))))))))
theorem k_laws_szGateAct : comp Try.prog 27 (Try.f34.body.getD .skip) = some c_laws_szGateAct := by kernel_rfl

theorem szGateAct : SzLOk Try.prog 34 shGateAct := by
  rintro ts left σ ht h0 h1
  obtain ⟨n0, n1, n2, n3, rfl, b0, b1, b2, b3⟩ := isGateAct ht
  refine acalls_of Try.func34 (by decide +kernel) (code := Try.f34.body.getD .skip) (n := 27) (c := c_laws_szGateAct) (rs := [(.tmp 4)]) rfl rfl k_laws_szGateAct (by kernel_rfl) (by simp) (fun hσ => ?_)
  try simp only [maxLen] at *
  have fin : ∀ {n : Int} {τ : Store}, n ≤ left → (0 ≤ n → ((n1.length + n2.length + n3.length : Nat) : Int) + n ≤ left) → retV σ.length (SzR (T.sizeL [(.int .i64 n0), (.str n1), (.str n2), (.str n3)]) left σ) (σ ++ τ) (some [.t (.int .i64 n)]) := fun h h' => ret_same rfl hσ rfl ⟨⟨_, rfl, h, fun h0 => by have := h' h0; rw [sizeGateAct]; exact this⟩, rfl⟩
  have w1 : IntKind.i64.wrap (left - n1.length) = left - n1.length := IntWalk.i64_in _ (by omega)
  simp -implicitDefEqProofs only [c_laws_szGateAct, w1, S0, S1, S2, S3, S4, S5, S6, S7, S8, S9, S10, S11, S12, S13, S14, S15, S16, S17, opv, opvs, eget, env0, setD, lenStr, lenSl, isNilP, isNilS, putAt, if_true, if_false, reduceCtorEq, Nat.reduceLeDiff, Nat.reduceEqDiff, Nat.reduceSub, Nat.reduceMul, Nat.reduceAdd]
  refine cond_split (fun h => ?_) (fun h => ?_)
  · simp -implicitDefEqProofs only [S0, S1, S2, S3, S4, S5, S6, S7, S8, S9, S10, S11, S12, S13, S14, S15, S16, S17, opv, opvs, eget, env0, setD, lenStr, lenSl, isNilP, isNilS, putAt, if_true, if_false, reduceCtorEq, Nat.reduceLeDiff, Nat.reduceEqDiff, Nat.reduceSub, Nat.reduceMul, Nat.reduceAdd]
    simp only [decide_eq_true_eq] at h
    exact fin (by omega) (by omega)
  simp only [decide_eq_false_iff_not, Int.not_lt] at h
  have w2 : IntKind.i64.wrap ((left - n1.length) - n2.length) = (left - n1.length) - n2.length := IntWalk.i64_in _ (by omega)
  simp -implicitDefEqProofs only [w2, S0, S1, S2, S3, S4, S5, S6, S7, S8, S9, S10, S11, S12, S13, S14, S15, S16, S17, opv, opvs, eget, env0, setD, lenStr, lenSl, isNilP, isNilS, putAt, if_true, if_false, reduceCtorEq, Nat.reduceLeDiff, Nat.reduceEqDiff, Nat.reduceSub, Nat.reduceMul, Nat.reduceAdd]
  refine cond_split (fun h => ?_) (fun h => ?_)
  · simp -implicitDefEqProofs only [S0, S1, S2, S3, S4, S5, S6, S7, S8, S9, S10, S11, S12, S13, S14, S15, S16, S17, opv, opvs, eget, env0, setD, lenStr, lenSl, isNilP, isNilS, putAt, if_true, if_false, reduceCtorEq, Nat.reduceLeDiff, Nat.reduceEqDiff, Nat.reduceSub, Nat.reduceMul, Nat.reduceAdd]
    simp only [decide_eq_true_eq] at h
    exact fin (by omega) (by omega)
  simp only [decide_eq_false_iff_not, Int.not_lt] at h
  have w3 : IntKind.i64.wrap (((left - n1.length) - n2.length) - n3.length) = ((left - n1.length) - n2.length) - n3.length := IntWalk.i64_in _ (by omega)
  simp -implicitDefEqProofs only [w3, S0, S1, S2, S3, S4, S5, S6, S7, S8, S9, S10, S11, S12, S13, S14, S15, S16, S17, opv, opvs, eget, env0, setD, lenStr, lenSl, isNilP, isNilS, putAt, if_true, if_false, reduceCtorEq, Nat.reduceLeDiff, Nat.reduceEqDiff, Nat.reduceSub, Nat.reduceMul, Nat.reduceAdd]
  refine cond_split (fun h => ?_) (fun h => ?_)
  · simp -implicitDefEqProofs only [S0, S1, S2, S3, S4, S5, S6, S7, S8, S9, S10, S11, S12, S13, S14, S15, S16, S17, opv, opvs, eget, env0, setD, lenStr, lenSl, isNilP, isNilS, putAt, if_true, if_false, reduceCtorEq, Nat.reduceLeDiff, Nat.reduceEqDiff, Nat.reduceSub, Nat.reduceMul, Nat.reduceAdd]
    simp only [decide_eq_true_eq] at h
    exact fin (by omega) (by omega)
  simp only [decide_eq_false_iff_not, Int.not_lt] at h
  simp -implicitDefEqProofs only [S0, S1, S2, S3, S4, S5, S6, S7, S8, S9, S10, S11, S12, S13, S14, S15, S16, S17, opv, opvs, eget, env0, setD, lenStr, lenSl, isNilP, isNilS, putAt, if_true, if_false, reduceCtorEq, Nat.reduceLeDiff, Nat.reduceEqDiff, Nat.reduceSub, Nat.reduceMul, Nat.reduceAdd]
  exact fin (by omega) (fun _ => by omega)
theorem szGateAct_x {n0} {n1} {n2} {n3} (left : Int) (σ : Store) (b0 : (Lit.int .i64 n0).wf = true) (b1 : n1.length ≤ maxLen) (b2 : n2.length ≤ maxLen) (b3 : n3.length ≤ maxLen) (h0 : 0 ≤ left) (h1 : left ≤ 1048576) : ACalls Try.prog 34 [.agg [.t (.int .i64 n0), .t (.str n1), .t (.str n2), .t (.str n3)], .t (.int .i64 left)] σ (SzR (T.sizeL [(.int .i64 n0), (.str n1), (.str n2), (.str n3)]) left σ) := by
  have h := szGateAct [(.int .i64 n0), (.str n1), (.str n2), (.str n3)] left σ (mkGateAct b0 b1 b2 b3) h0 h1
  exact h
def c_laws_toGateAct : C := (.seq (.ops [⟨(some 1), none, (.box (.t 0))⟩, ⟨(some 2), none, (.new [(.t (.int .i64 0)), (.t (.str [])), (.t (.str [])), (.t (.str []))])⟩]) (.seq (.ops [⟨(some 3), none, (.new [(.t (.int .i64 0)), (.t (.str [])), (.t (.str [])), (.t (.str []))])⟩]) (.seq (.ops [⟨(some 4), none, (.fieldAddr 0 (.t 1))⟩, ⟨(some 5), none, (.load none (.t 4))⟩, ⟨(some 6), none, (.fieldAddr 0 (.t 3))⟩, ⟨none, none, (.store 1 (.t 6) (.t 5))⟩]) (.seq (.ops [⟨(some 7), none, (.fieldAddr 1 (.t 1))⟩, ⟨(some 8), none, (.load none (.t 7))⟩, ⟨(some 9), none, (.fieldAddr 1 (.t 3))⟩, ⟨none, none, (.store 1 (.t 9) (.t 8))⟩]) (.seq (.ops [⟨(some 10), none, (.fieldAddr 2 (.t 1))⟩, ⟨(some 11), none, (.load none (.t 10))⟩, ⟨(some 12), none, (.fieldAddr 2 (.t 3))⟩, ⟨none, none, (.store 1 (.t 12) (.t 11))⟩]) (.seq (.ops [⟨(some 13), none, (.fieldAddr 3 (.t 1))⟩, ⟨(some 14), none, (.load none (.t 13))⟩, ⟨(some 15), none, (.fieldAddr 3 (.t 3))⟩, ⟨none, none, (.store 1 (.t 15) (.t 14))⟩]) (.seq (.ops [⟨(some 16), none, (.load (some 4) (.t 3))⟩, ⟨none, none, (.store 4 (.t 2) (.t 16))⟩]) .ret)))))))
theorem k_laws_toGateAct : comp Try.prog 17 (Try.f37.body.getD .skip) = some c_laws_toGateAct := by kernel_rfl

theorem toGateAct : ToLOk Try.prog 37 shGateAct := by
  rintro ts σ ht h1
  obtain ⟨n0, n1, n2, n3, rfl, b0, b1, b2, b3⟩ := isGateAct ht
  rw [sizeGateAct] at h1
  refine acalls_of Try.func37 (by decide +kernel) (code := Try.f37.body.getD .skip) (n := 17) (c := c_laws_toGateAct) (rs := [(.cell 2 (some 4))]) rfl rfl k_laws_toGateAct (by kernel_rfl) (by simp) (fun hσ => ?_)
  simp -implicitDefEqProofs only [c_laws_toGateAct, S0, S1, S2, S3, S4, S5, S6, S7, S8, S9, S10, S11, S12, S13, S14, S15, S16, S17, opv, opvs, eget, env0, setD, lenStr, lenSl, isNilP, isNilS, putAt, if_true, if_false, reduceCtorEq, Nat.reduceLeDiff, Nat.reduceEqDiff, Nat.reduceSub, Nat.reduceMul, Nat.reduceAdd]
  exact fin_keep (by simp) ⟨_, _, [], rfl, rfl, (OwnL.int (OwnL.str (OwnL.str (OwnL.str OwnL.nil0)))), Wi.nil⟩
theorem toGateAct_x {n0} {n1} {n2} {n3} (σ : Store) (b0 : (Lit.int .i64 n0).wf = true) (b1 : n1.length ≤ maxLen) (b2 : n2.length ≤ maxLen) (b3 : n3.length ≤ maxLen) (hz : n1.length + n2.length + n3.length ≤ 1048576) : ACalls Try.prog 37 [.agg [.t (.int .i64 n0), .t (.str n1), .t (.str n2), .t (.str n3)]] σ (ToLR [(.int .i64 n0), (.str n1), (.str n2), (.str n3)] σ) := by
  have h := toGateAct [(.int .i64 n0), (.str n1), (.str n2), (.str n3)] σ (mkGateAct b0 b1 b2 b3) (by rw [sizeGateAct]; omega)
  exact h
def shGateField : List Sh := [.str, .int .i64, .int .i64, .int .i64, .sl 1 [.str], .str, .int .i64, .bool, .bool, .str, .str]
theorem isGateField {ts : List T} (ht : T.isL shGateField ts) : ∃ n0 n1 n2 n3 n4 n5 n6 n7 n8 n9 n10, ts = [(.str n0), (.int .i64 n1), (.int .i64 n2), (.int .i64 n3), n4, (.str n5), (.int .i64 n6), (.bool n7), (.bool n8), (.str n9), (.str n10)] ∧ n0.length ≤ maxLen ∧ (Lit.int .i64 n1).wf = true ∧ (Lit.int .i64 n2).wf = true ∧ (Lit.int .i64 n3).wf = true ∧ T.is (.sl 1 [.str]) n4 ∧ n5.length ≤ maxLen ∧ (Lit.int .i64 n6).wf = true ∧ n9.length ≤ maxLen ∧ n10.length ≤ maxLen := by
  simp only [shGateField, isL_cons, isL_nil, is_int, is_bool, is_str] at ht
  obtain ⟨_, _, rfl, ⟨n0, rfl, b0⟩, _, _, rfl, ⟨n1, rfl, b1⟩, _, _, rfl, ⟨n2, rfl, b2⟩, _, _, rfl, ⟨n3, rfl, b3⟩, n4, _, rfl, b4, _, _, rfl, ⟨n5, rfl, b5⟩, _, _, rfl, ⟨n6, rfl, b6⟩, _, _, rfl, ⟨n7, rfl⟩, _, _, rfl, ⟨n8, rfl⟩, _, _, rfl, ⟨n9, rfl, b9⟩, _, _, rfl, ⟨n10, rfl, b10⟩, rfl⟩ := ht
  exact ⟨_, _, _, _, _, _, _, _, _, _, _, rfl, b0, b1, b2, b3, b4, b5, b6, b9, b10⟩
theorem mkGateField {n0} {n1} {n2} {n3} {n4} {n5} {n6} {n7} {n8} {n9} {n10} (b0 : n0.length ≤ maxLen) (b1 : (Lit.int .i64 n1).wf = true) (b2 : (Lit.int .i64 n2).wf = true) (b3 : (Lit.int .i64 n3).wf = true) (b4 : T.is (.sl 1 [.str]) n4) (b5 : n5.length ≤ maxLen) (b6 : (Lit.int .i64 n6).wf = true) (b9 : n9.length ≤ maxLen) (b10 : n10.length ≤ maxLen) : T.isL shGateField [(.str n0), (.int .i64 n1), (.int .i64 n2), (.int .i64 n3), n4, (.str n5), (.int .i64 n6), (.bool n7), (.bool n8), (.str n9), (.str n10)] := by
  simp only [shGateField, isL_cons, isL_nil, is_int, is_bool, is_str]
  exact ⟨_, _, rfl, ⟨_, rfl, b0⟩, _, _, rfl, ⟨_, rfl, b1⟩, _, _, rfl, ⟨_, rfl, b2⟩, _, _, rfl, ⟨_, rfl, b3⟩, _, _, rfl, b4, _, _, rfl, ⟨_, rfl, b5⟩, _, _, rfl, ⟨_, rfl, b6⟩, _, _, rfl, ⟨_, rfl⟩, _, _, rfl, ⟨_, rfl⟩, _, _, rfl, ⟨_, rfl, b9⟩, _, _, rfl, ⟨_, rfl, b10⟩, rfl⟩
theorem sizeGateField {n0} {n1} {n2} {n3} {n4} {n5} {n6} {n7} {n8} {n9} {n10} : T.sizeL [(.str n0), (.int .i64 n1), (.int .i64 n2), (.int .i64 n3), n4, (.str n5), (.int .i64 n6), (.bool n7), (.bool n8), (.str n9), (.str n10)] = n0.length + n4.size + n5.length + n9.length + n10.length := by
  simp only [sizeL_cons, sizeL_nil, size_int, size_bool, size_str]
  try omega
def c_laws_szGateField : C := (.seq (.ops [⟨(some 2), none, (.box (.t 0))⟩, ⟨(some 4), none, (.mv (.c (.t (.int .i64 0))))⟩]) (.seq (.ops [⟨(some 5), none, (.mv (.t 1))⟩, ⟨(some 6), none, (.fieldAddr 0 (.t 2))⟩, ⟨(some 7), none, (.load none (.t 6))⟩, ⟨(some 8), none, (.len true (.t 7))⟩, ⟨(some 9), none, (.bin .sub (.t 5) (.t 8))⟩, ⟨(some 1), none, (.mv (.t 9))⟩]) (.seq (.seq (.ops [⟨(some 10), none, (.mv (.t 1))⟩, ⟨(some 11), none, (.bin .lss (.t 10) (.c (.t (.int .i64 0))))⟩]) (.cond (.t 11) (.seq (.ops [⟨(some 4), none, (.mv (.c (.t (.int .i64 (-1)))))⟩]) .ret) .skip)) (.seq (.ops [⟨(some 12), none, (.fieldAddr 4 (.t 2))⟩, ⟨(some 13), none, (.load none (.t 12))⟩, ⟨(some 14), none, (.mv (.t 1))⟩, ⟨(some 15), none, (.call (.c (.fn (.func 85) [])) [(.t 13), (.t 14)])⟩, ⟨(some 1), none, (.mv (.t 15))⟩]) (.seq (.seq (.ops [⟨(some 16), none, (.mv (.t 1))⟩, ⟨(some 17), none, (.bin .lss (.t 16) (.c (.t (.int .i64 0))))⟩]) (.cond (.t 17) (.seq (.ops [⟨(some 4), none, (.mv (.c (.t (.int .i64 (-1)))))⟩]) .ret) .skip)) (.seq (.ops [⟨(some 18), none, (.mv (.t 1))⟩, ⟨(some 19), none, (.fieldAddr 5 (.t 2))⟩, ⟨(some 20), none, (.load none (.t 19))⟩, ⟨(some 21), none, (.len true (.t 20))⟩, ⟨(some 22), none, (.bin .sub (.t 18) (.t 21))⟩, ⟨(some 1), none, (.mv (.t 22))⟩]) (.seq (.seq (.ops [⟨(some 23), none, (.mv (.t 1))⟩, ⟨(some 24), none, (.bin .lss (.t 23) (.c (.t (.int .i64 0))))⟩]) (.cond (.t 24) (.seq (.ops [⟨(some 4), none, (.mv (.c (.t (.int .i64 (-1)))))⟩]) .ret) .skip)) (.seq (.ops [⟨(some 25), none, (.mv (.t 1))⟩, ⟨(some 26), none, (.fieldAddr 9 (.t 2))⟩, ⟨(some 27), none, (.load none (.t 26))⟩, ⟨(some 28), none, (.len true (.t 27))⟩, ⟨(some 29), none, (.bin .sub (.t 25) (.t 28))⟩, ⟨(some 1), none, (.mv (.t 29))⟩]) (.seq (.seq (.ops [⟨(some 30), none, (.mv (.t 1))⟩, ⟨(some 31), none, (.bin .lss (.t 30) (.c (.t (.int .i64 0))))⟩]) (.cond (.t 31) (.seq (.ops [⟨(some 4), none, (.mv (.c (.t (.int .i64 (-1)))))⟩]) .ret) .skip)) (.seq (.ops [⟨(some 32), none, (.mv (.t 1))⟩, ⟨(some 33), none, (.fieldAddr 10 (.t 2))⟩, ⟨(some 34), none, (.load none (.t 33))⟩, ⟨(some 35), none, (.len true (.t 34))⟩, ⟨(some 36), none, (.bin .sub (.t 32) (.t 35))⟩, ⟨(some 1), none, (.mv (.t 36))⟩]) (.seq (.seq (.ops [⟨(some 37), none, (.mv (.t 1))⟩, ⟨(some 38), none, (.bin .lss (.t 37) (.c (.t (.int .i64 0))))⟩]) (.cond (.t 38) (.seq (.ops [⟨(some 4), none, (.mv (.c (.t (.int .i64 (-1)))))⟩]) .ret) .skip)) (.seq (.ops [⟨(some 39), none, (.mv (.t 1))⟩, ⟨(some 4), none, (.mv (.t 39))⟩]) .ret))))))))))))
theorem k_laws_szGateField : comp Try.prog 40 (Try.f28.body.getD .skip) = some c_laws_szGateField := by kernel_rfl

theorem szGateField : SzLOk Try.prog 28 shGateField := by
  rintro ts left σ ht h0 h1
  obtain ⟨n0, n1, n2, n3, n4, n5, n6, n7, n8, n9, n10, rfl, b0, b1, b2, b3, b4, b5, b6, b9, b10⟩ := isGateField ht
  refine acalls_of Try.func28 (by decide +kernel) (code := Try.f28.body.getD .skip) (n := 40) (c := c_laws_szGateField) (rs := [(.tmp 4)]) rfl rfl k_laws_szGateField (by kernel_rfl) (by simp) (fun hσ => ?_)
  try simp only [maxLen] at *
  have fin : ∀ {n : Int} {τ : Store}, n ≤ left → (0 ≤ n → ((n0.length + n4.size + n5.length + n9.length + n10.length : Nat) : Int) + n ≤ left) → retV σ.length (SzR (T.sizeL [(.str n0), (.int .i64 n1), (.int .i64 n2), (.int .i64 n3), n4, (.str n5), (.int .i64 n6), (.bool n7), (.bool n8), (.str n9), (.str n10)]) left σ) (σ ++ τ) (some [.t (.int .i64 n)]) := fun h h' => ret_same rfl hσ rfl ⟨⟨_, rfl, h, fun h0 => by have := h' h0; rw [sizeGateField]; exact this⟩, rfl⟩
  have w0 : IntKind.i64.wrap (left - n0.length) = left - n0.length := IntWalk.i64_in _ (by omega)
  simp -implicitDefEqProofs only [c_laws_szGateField, w0, S0, S1, S2, S3, S4, S5, S6, S7, S8, S9, S10, S11, S12, S13, S14, S15, S16, S17, opv, opvs, eget, env0, setD, lenStr, lenSl, isNilP, isNilS, putAt, if_true, if_false, reduceCtorEq, Nat.reduceLeDiff, Nat.reduceEqDiff, Nat.reduceSub, Nat.reduceMul, Nat.reduceAdd]
  refine cond_split (fun h => ?_) (fun h => ?_)
  · simp -implicitDefEqProofs only [S0, S1, S2, S3, S4, S5, S6, S7, S8, S9, S10, S11, S12, S13, S14, S15, S16, S17, opv, opvs, eget, env0, setD, lenStr, lenSl, isNilP, isNilS, putAt, if_true, if_false, reduceCtorEq, Nat.reduceLeDiff, Nat.reduceEqDiff, Nat.reduceSub, Nat.reduceMul, Nat.reduceAdd]
    simp only [decide_eq_true_eq] at h
    exact fin (by omega) (by omega)
  simp only [decide_eq_false_iff_not, Int.not_lt] at h
  simp -implicitDefEqProofs only [S0, S1, S2, S3, S4, S5, S6, S7, S8, S9, S10, S11, S12, S13, S14, S15, S16, S17, opv, opvs, eget, env0, setD, lenStr, lenSl, isNilP, isNilS, putAt, if_true, if_false, reduceCtorEq, Nat.reduceLeDiff, Nat.reduceEqDiff, Nat.reduceSub, Nat.reduceMul, Nat.reduceAdd]
  refine call_by (by rw [List.append_nil]; exact szStringS n4 (left - n0.length) _ b4 (by omega) (by omega)) ?_
  rintro r σ' ⟨⟨m4, rfl, hm4, hs4⟩, rfl⟩
  try simp only [sizeGateField] at hs4
  simp -implicitDefEqProofs only [S0, S1, S2, S3, S4, S5, S6, S7, S8, S9, S10, S11, S12, S13, S14, S15, S16, S17, opv, opvs, eget, env0, setD, lenStr, lenSl, isNilP, isNilS, putAt, if_true, if_false, reduceCtorEq, Nat.reduceLeDiff, Nat.reduceEqDiff, Nat.reduceSub, Nat.reduceMul, Nat.reduceAdd]
  refine cond_split (fun h => ?_) (fun h => ?_)
  · simp -implicitDefEqProofs only [S0, S1, S2, S3, S4, S5, S6, S7, S8, S9, S10, S11, S12, S13, S14, S15, S16, S17, opv, opvs, eget, env0, setD, lenStr, lenSl, isNilP, isNilS, putAt, if_true, if_false, reduceCtorEq, Nat.reduceLeDiff, Nat.reduceEqDiff, Nat.reduceSub, Nat.reduceMul, Nat.reduceAdd]
    simp only [decide_eq_true_eq] at h
    exact fin (by omega) (by omega)
  simp only [decide_eq_false_iff_not, Int.not_lt] at h
  replace hs4 := hs4 h
  have w5 : IntKind.i64.wrap (m4 - n5.length) = m4 - n5.length := IntWalk.i64_in _ (by omega)
  simp -implicitDefEqProofs only [w5, S0, S1, S2, S3, S4, S5, S6, S7, S8, S9, S10, S11, S12, S13, S14, S15, S16, S17, opv, opvs, eget, env0, setD, lenStr, lenSl, isNilP, isNilS, putAt, if_true, if_false, reduceCtorEq, Nat.reduceLeDiff, Nat.reduceEqDiff, Nat.reduceSub, Nat.reduceMul, Nat.reduceAdd]
  refine cond_split (fun h => ?_) (fun h => ?_)
  · simp -implicitDefEqProofs only [S0, S1, S2, S3, S4, S5, S6, S7, S8, S9, S10, S11, S12, S13, S14, S15, S16, S17, opv, opvs, eget, env0, setD, lenStr, lenSl, isNilP, isNilS, putAt, if_true, if_false, reduceCtorEq, Nat.reduceLeDiff, Nat.reduceEqDiff, Nat.reduceSub, Nat.reduceMul, Nat.reduceAdd]
    simp only [decide_eq_true_eq] at h
    exact fin (by omega) (by omega)
  simp only [decide_eq_false_iff_not, Int.not_lt] at h
  have w9 : IntKind.i64.wrap ((m4 - n5.length) - n9.length) = (m4 - n5.length) - n9.length := IntWalk.i64_in _ (by omega)
  simp -implicitDefEqProofs only [w9, S0, S1, S2, S3, S4, S5, S6, S7, S8, S9, S10, S11, S12, S13, S14, S15, S16, S17, opv, opvs, eget, env0, setD, lenStr, lenSl, isNilP, isNilS, putAt, if_true, if_false, reduceCtorEq, Nat.reduceLeDiff, Nat.reduceEqDiff, Nat.reduceSub, Nat.reduceMul, Nat.reduceAdd]
  refine cond_split (fun h => ?_) (fun h => ?_)
  · simp -implicitDefEqProofs only [S0, S1, S2, S3, S4, S5, S6, S7, S8, S9, S10, S11, S12, S13, S14, S15, S16, S17, opv, opvs, eget, env0, setD, lenStr, lenSl, isNilP, isNilS, putAt, if_true, if_false, reduceCtorEq, Nat.reduceLeDiff, Nat.reduceEqDiff, Nat.reduceSub, Nat.reduceMul, Nat.reduceAdd]
    simp only [decide_eq_true_eq] at h
    exact fin (by omega) (by omega)
  simp only [decide_eq_false_iff_not, Int.not_lt] at h
  have w10 : IntKind.i64.wrap (((m4 - n5.length) - n9.length) - n10.length) = ((m4 - n5.length) - n9.length) - n10.length := IntWalk.i64_in _ (by omega)
  simp -implicitDefEqProofs only [w10, S0, S1, S2, S3, S4, S5, S6, S7, S8, S9, S10, S11, S12, S13, S14, S15, S16, S17, opv, opvs, eget, env0, setD, lenStr, lenSl, isNilP, isNilS, putAt, if_true, if_false, reduceCtorEq, Nat.reduceLeDiff, Nat.reduceEqDiff, Nat.reduceSub, Nat.reduceMul, Nat.reduceAdd]
  refine cond_split (fun h => ?_) (fun h => ?_)
  · simp -implicitDefEqProofs only [S0, S1, S2, S3, S4, S5, S6, S7, S8, S9, S10, S11, S12, S13, S14, S15, S16, S17, opv, opvs, eget, env0, setD, lenStr, lenSl, isNilP, isNilS, putAt, if_true, if_false, reduceCtorEq, Nat.reduceLeDiff, Nat.reduceEqDiff, Nat.reduceSub, Nat.reduceMul, Nat.reduceAdd]
    simp only [decide_eq_true_eq] at h
    exact fin (by omega) (by omega)
  simp only [decide_eq_false_iff_not, Int.not_lt] at h
  simp -implicitDefEqProofs only [S0, S1, S2, S3, S4, S5, S6, S7, S8, S9, S10, S11, S12, S13, S14, S15, S16, S17, opv, opvs, eget, env0, setD, lenStr, lenSl, isNilP, isNilS, putAt, if_true, if_false, reduceCtorEq, Nat.reduceLeDiff, Nat.reduceEqDiff, Nat.reduceSub, Nat.reduceMul, Nat.reduceAdd]
  exact fin (by omega) (fun _ => by omega)
theorem szGateField_x {n0} {n1} {n2} {n3} {n4} {n5} {n6} {n7} {n8} {n9} {n10} (left : Int) (σ : Store) (b0 : n0.length ≤ maxLen) (b1 : (Lit.int .i64 n1).wf = true) (b2 : (Lit.int .i64 n2).wf = true) (b3 : (Lit.int .i64 n3).wf = true) (b4 : T.is (.sl 1 [.str]) n4) (b5 : n5.length ≤ maxLen) (b6 : (Lit.int .i64 n6).wf = true) (b9 : n9.length ≤ maxLen) (b10 : n10.length ≤ maxLen) (h0 : 0 ≤ left) (h1 : left ≤ 1048576) : ACalls Try.prog 28 [.agg [.t (.str n0), .t (.int .i64 n1), .t (.int .i64 n2), .t (.int .i64 n3), .t n4, .t (.str n5), .t (.int .i64 n6), .t (.bool n7), .t (.bool n8), .t (.str n9), .t (.str n10)], .t (.int .i64 left)] σ (SzR (T.sizeL [(.str n0), (.int .i64 n1), (.int .i64 n2), (.int .i64 n3), n4, (.str n5), (.int .i64 n6), (.bool n7), (.bool n8), (.str n9), (.str n10)]) left σ) := by
  have h := szGateField [(.str n0), (.int .i64 n1), (.int .i64 n2), (.int .i64 n3), n4, (.str n5), (.int .i64 n6), (.bool n7), (.bool n8), (.str n9), (.str n10)] left σ (mkGateField b0 b1 b2 b3 b4 b5 b6 b9 b10) h0 h1
  exact h
def c_laws_eqGateField : C := (.seq (.ops [⟨(some 2), none, (.box (.t 0))⟩, ⟨(some 3), none, (.box (.t 1))⟩, ⟨(some 4), none, (.mv (.c (.t (.bool false))))⟩]) (.seq (.seq (.ops [⟨(some 5), none, (.fieldAddr 0 (.t 2))⟩, ⟨(some 6), none, (.load none (.t 5))⟩, ⟨(some 7), none, (.fieldAddr 0 (.t 3))⟩, ⟨(some 8), none, (.load none (.t 7))⟩, ⟨(some 9), none, (.bin .neq (.t 6) (.t 8))⟩]) (.cond (.t 9) (.seq (.ops [⟨(some 4), none, (.mv (.c (.t (.bool false))))⟩]) .ret) .skip)) (.seq (.seq (.ops [⟨(some 10), none, (.fieldAddr 1 (.t 2))⟩, ⟨(some 11), none, (.load none (.t 10))⟩, ⟨(some 12), none, (.fieldAddr 1 (.t 3))⟩, ⟨(some 13), none, (.load none (.t 12))⟩, ⟨(some 14), none, (.bin .neq (.t 11) (.t 13))⟩]) (.cond (.t 14) (.seq (.ops [⟨(some 4), none, (.mv (.c (.t (.bool false))))⟩]) .ret) .skip)) (.seq (.seq (.ops [⟨(some 15), none, (.fieldAddr 2 (.t 2))⟩, ⟨(some 16), none, (.load none (.t 15))⟩, ⟨(some 17), none, (.fieldAddr 2 (.t 3))⟩, ⟨(some 18), none, (.load none (.t 17))⟩, ⟨(some 19), none, (.bin .neq (.t 16) (.t 18))⟩]) (.cond (.t 19) (.seq (.ops [⟨(some 4), none, (.mv (.c (.t (.bool false))))⟩]) .ret) .skip)) (.seq (.seq (.ops [⟨(some 20), none, (.fieldAddr 3 (.t 2))⟩, ⟨(some 21), none, (.load none (.t 20))⟩, ⟨(some 22), none, (.fieldAddr 3 (.t 3))⟩, ⟨(some 23), none, (.load none (.t 22))⟩, ⟨(some 24), none, (.bin .neq (.t 21) (.t 23))⟩]) (.cond (.t 24) (.seq (.ops [⟨(some 4), none, (.mv (.c (.t (.bool false))))⟩]) .ret) .skip)) (.seq (.seq (.ops [⟨(some 25), none, (.fieldAddr 4 (.t 2))⟩, ⟨(some 26), none, (.load none (.t 25))⟩, ⟨(some 27), none, (.fieldAddr 4 (.t 3))⟩, ⟨(some 28), none, (.load none (.t 27))⟩, ⟨(some 29), none, (.call (.c (.fn (.func 91) [])) [(.t 26), (.t 28)])⟩, ⟨(some 30), none, (.un .not (.t 29))⟩]) (.cond (.t 30) (.seq (.ops [⟨(some 4), none, (.mv (.c (.t (.bool false))))⟩]) .ret) .skip)) (.seq (.seq (.ops [⟨(some 31), none, (.fieldAddr 5 (.t 2))⟩, ⟨(some 32), none, (.load none (.t 31))⟩, ⟨(some 33), none, (.fieldAddr 5 (.t 3))⟩, ⟨(some 34), none, (.load none (.t 33))⟩, ⟨(some 35), none, (.bin .neq (.t 32) (.t 34))⟩]) (.cond (.t 35) (.seq (.ops [⟨(some 4), none, (.mv (.c (.t (.bool false))))⟩]) .ret) .skip)) (.seq (.seq (.ops [⟨(some 36), none, (.fieldAddr 6 (.t 2))⟩, ⟨(some 37), none, (.load none (.t 36))⟩, ⟨(some 38), none, (.fieldAddr 6 (.t 3))⟩, ⟨(some 39), none, (.load none (.t 38))⟩, ⟨(some 40), none, (.bin .neq (.t 37) (.t 39))⟩]) (.cond (.t 40) (.seq (.ops [⟨(some 4), none, (.mv (.c (.t (.bool false))))⟩]) .ret) .skip)) (.seq (.seq (.ops [⟨(some 41), none, (.fieldAddr 7 (.t 2))⟩, ⟨(some 42), none, (.load none (.t 41))⟩, ⟨(some 43), none, (.fieldAddr 7 (.t 3))⟩, ⟨(some 44), none, (.load none (.t 43))⟩, ⟨(some 45), none, (.eqB true (.t 42) (.t 44))⟩]) (.cond (.t 45) (.seq (.ops [⟨(some 4), none, (.mv (.c (.t (.bool false))))⟩]) .ret) .skip)) (.seq (.seq (.ops [⟨(some 46), none, (.fieldAddr 8 (.t 2))⟩, ⟨(some 47), none, (.load none (.t 46))⟩, ⟨(some 48), none, (.fieldAddr 8 (.t 3))⟩, ⟨(some 49), none, (.load none (.t 48))⟩, ⟨(some 50), none, (.eqB true (.t 47) (.t 49))⟩]) (.cond (.t 50) (.seq (.ops [⟨(some 4), none, (.mv (.c (.t (.bool false))))⟩]) .ret) .skip)) (.seq (.seq (.ops [⟨(some 51), none, (.fieldAddr 9 (.t 2))⟩, ⟨(some 52), none, (.load none (.t 51))⟩, ⟨(some 53), none, (.fieldAddr 9 (.t 3))⟩, ⟨(some 54), none, (.load none (.t 53))⟩, ⟨(some 55), none, (.bin .neq (.t 52) (.t 54))⟩]) (.cond (.t 55) (.seq (.ops [⟨(some 4), none, (.mv (.c (.t (.bool false))))⟩]) .ret) .skip)) (.seq (.seq (.ops [⟨(some 56), none, (.fieldAddr 10 (.t 2))⟩, ⟨(some 57), none, (.load none (.t 56))⟩, ⟨(some 58), none, (.fieldAddr 10 (.t 3))⟩, ⟨(some 59), none, (.load none (.t 58))⟩, ⟨(some 60), none, (.bin .neq (.t 57) (.t 59))⟩]) (.cond (.t 60) (.seq (.ops [⟨(some 4), none, (.mv (.c (.t (.bool false))))⟩]) .ret) .skip)) (.seq (.ops [⟨(some 4), none, (.mv (.c (.t (.bool true))))⟩]) .ret)))))))))))))
theorem k_laws_eqGateField : comp Try.prog 61 (Try.f32.body.getD .skip) = some c_laws_eqGateField := by kernel_rfl

theorem eqGateField : EqLOk Try.prog 32 shGateField := by
  rintro ts σ ht h1
  obtain ⟨n0, n1, n2, n3, n4, n5, n6, n7, n8, n9, n10, rfl, b0, b1, b2, b3, b4, b5, b6, b9, b10⟩ := isGateField ht
  rw [sizeGateField] at h1
  refine acalls_of Try.func32 (by decide +kernel) (code := Try.f32.body.getD .skip) (n := 61) (c := c_laws_eqGateField) (rs := [(.tmp 4)]) rfl rfl k_laws_eqGateField (by kernel_rfl) (by simp) (fun hσ => ?_)
  simp -implicitDefEqProofs only [c_laws_eqGateField, ne_self, beq_self_eq_true, S0, S1, S2, S3, S4, S5, S6, S7, S8, S9, S10, S11, S12, S13, S14, S15, S16, S17, opv, opvs, eget, env0, setD, lenStr, lenSl, isNilP, isNilS, putAt, if_true, if_false, reduceCtorEq, Nat.reduceLeDiff, Nat.reduceEqDiff, Nat.reduceSub, Nat.reduceMul, Nat.reduceAdd]
  refine call_pure (eqStringS n4 _ b4 (by omega)) ?_
  simp -implicitDefEqProofs only [ne_self, beq_self_eq_true, S0, S1, S2, S3, S4, S5, S6, S7, S8, S9, S10, S11, S12, S13, S14, S15, S16, S17, opv, opvs, eget, env0, setD, lenStr, lenSl, isNilP, isNilS, putAt, if_true, if_false, reduceCtorEq, Nat.reduceLeDiff, Nat.reduceEqDiff, Nat.reduceSub, Nat.reduceMul, Nat.reduceAdd]
  exact ret_same rfl hσ rfl ⟨rfl, rfl⟩
theorem eqGateField_x {n0} {n1} {n2} {n3} {n4} {n5} {n6} {n7} {n8} {n9} {n10} (σ : Store) (b0 : n0.length ≤ maxLen) (b1 : (Lit.int .i64 n1).wf = true) (b2 : (Lit.int .i64 n2).wf = true) (b3 : (Lit.int .i64 n3).wf = true) (b4 : T.is (.sl 1 [.str]) n4) (b5 : n5.length ≤ maxLen) (b6 : (Lit.int .i64 n6).wf = true) (b9 : n9.length ≤ maxLen) (b10 : n10.length ≤ maxLen) (hz : n0.length + n4.size + n5.length + n9.length + n10.length ≤ 1099511627776) : ACalls Try.prog 32 [.agg [.t (.str n0), .t (.int .i64 n1), .t (.int .i64 n2), .t (.int .i64 n3), .t n4, .t (.str n5), .t (.int .i64 n6), .t (.bool n7), .t (.bool n8), .t (.str n9), .t (.str n10)], .agg [.t (.str n0), .t (.int .i64 n1), .t (.int .i64 n2), .t (.int .i64 n3), .t n4, .t (.str n5), .t (.int .i64 n6), .t (.bool n7), .t (.bool n8), .t (.str n9), .t (.str n10)]] σ (TrueR σ) := by
  have h := eqGateField [(.str n0), (.int .i64 n1), (.int .i64 n2), (.int .i64 n3), n4, (.str n5), (.int .i64 n6), (.bool n7), (.bool n8), (.str n9), (.str n10)] σ (mkGateField b0 b1 b2 b3 b4 b5 b6 b9 b10) (by rw [sizeGateField]; omega)
  exact h
def c_laws_toGateField : C := (.seq (.ops [⟨(some 1), none, (.box (.t 0))⟩, ⟨(some 2), none, (.new [(.t (.str [])), (.t (.int .i64 0)), (.t (.int .i64 0)), (.t (.int .i64 0)), .nils, (.t (.str [])), (.t (.int .i64 0)), (.t (.bool false)), (.t (.bool false)), (.t (.str [])), (.t (.str []))])⟩]) (.seq (.ops [⟨(some 3), none, (.new [(.t (.str [])), (.t (.int .i64 0)), (.t (.int .i64 0)), (.t (.int .i64 0)), .nils, (.t (.str [])), (.t (.int .i64 0)), (.t (.bool false)), (.t (.bool false)), (.t (.str [])), (.t (.str []))])⟩]) (.seq (.ops [⟨(some 4), none, (.fieldAddr 0 (.t 1))⟩, ⟨(some 5), none, (.load none (.t 4))⟩, ⟨(some 6), none, (.fieldAddr 0 (.t 3))⟩, ⟨none, none, (.store 1 (.t 6) (.t 5))⟩]) (.seq (.ops [⟨(some 7), none, (.fieldAddr 1 (.t 1))⟩, ⟨(some 8), none, (.load none (.t 7))⟩, ⟨(some 9), none, (.fieldAddr 1 (.t 3))⟩, ⟨none, none, (.store 1 (.t 9) (.t 8))⟩]) (.seq (.ops [⟨(some 10), none, (.fieldAddr 2 (.t 1))⟩, ⟨(some 11), none, (.load none (.t 10))⟩, ⟨(some 12), none, (.fieldAddr 2 (.t 3))⟩, ⟨none, none, (.store 1 (.t 12) (.t 11))⟩]) (.seq (.ops [⟨(some 13), none, (.fieldAddr 3 (.t 1))⟩, ⟨(some 14), none, (.load none (.t 13))⟩, ⟨(some 15), none, (.fieldAddr 3 (.t 3))⟩, ⟨none, none, (.store 1 (.t 15) (.t 14))⟩]) (.seq (.ops [⟨(some 16), none, (.fieldAddr 4 (.t 1))⟩, ⟨(some 17), none, (.load none (.t 16))⟩, ⟨(some 18), none, (.call (.c (.fn (.func 89) [])) [(.t 17)])⟩, ⟨(some 19), none, (.fieldAddr 4 (.t 3))⟩, ⟨none, none, (.store 1 (.t 19) (.t 18))⟩]) (.seq (.ops [⟨(some 20), none, (.fieldAddr 5 (.t 1))⟩, ⟨(some 21), none, (.load none (.t 20))⟩, ⟨(some 22), none, (.fieldAddr 5 (.t 3))⟩, ⟨none, none, (.store 1 (.t 22) (.t 21))⟩]) (.seq (.ops [⟨(some 23), none, (.fieldAddr 6 (.t 1))⟩, ⟨(some 24), none, (.load none (.t 23))⟩, ⟨(some 25), none, (.fieldAddr 6 (.t 3))⟩, ⟨none, none, (.store 1 (.t 25) (.t 24))⟩]) (.seq (.ops [⟨(some 26), none, (.fieldAddr 7 (.t 1))⟩, ⟨(some 27), none, (.load none (.t 26))⟩, ⟨(some 28), none, (.fieldAddr 7 (.t 3))⟩, ⟨none, none, (.store 1 (.t 28) (.t 27))⟩]) (.seq (.ops [⟨(some 29), none, (.fieldAddr 8 (.t 1))⟩, ⟨(some 30), none, (.load none (.t 29))⟩, ⟨(some 31), none, (.fieldAddr 8 (.t 3))⟩, ⟨none, none, (.store 1 (.t 31) (.t 30))⟩]) (.seq (.ops [⟨(some 32), none, (.fieldAddr 9 (.t 1))⟩, ⟨(some 33), none, (.load none (.t 32))⟩, ⟨(some 34), none, (.fieldAddr 9 (.t 3))⟩, ⟨none, none, (.store 1 (.t 34) (.t 33))⟩]) (.seq (.ops [⟨(some 35), none, (.fieldAddr 10 (.t 1))⟩, ⟨(some 36), none, (.load none (.t 35))⟩, ⟨(some 37), none, (.fieldAddr 10 (.t 3))⟩, ⟨none, none, (.store 1 (.t 37) (.t 36))⟩]) (.seq (.ops [⟨(some 38), none, (.load (some 11) (.t 3))⟩, ⟨none, none, (.store 11 (.t 2) (.t 38))⟩]) .ret))))))))))))))
theorem k_laws_toGateField : comp Try.prog 39 (Try.f30.body.getD .skip) = some c_laws_toGateField := by kernel_rfl

theorem toGateField : ToLOk Try.prog 30 shGateField := by
  rintro ts σ ht h1
  obtain ⟨n0, n1, n2, n3, n4, n5, n6, n7, n8, n9, n10, rfl, b0, b1, b2, b3, b4, b5, b6, b9, b10⟩ := isGateField ht
  rw [sizeGateField] at h1
  refine acalls_of Try.func30 (by decide +kernel) (code := Try.f30.body.getD .skip) (n := 39) (c := c_laws_toGateField) (rs := [(.cell 2 (some 11))]) rfl rfl k_laws_toGateField (by kernel_rfl) (by simp) (fun hσ => ?_)
  simp -implicitDefEqProofs only [c_laws_toGateField, S0, S1, S2, S3, S4, S5, S6, S7, S8, S9, S10, S11, S12, S13, S14, S15, S16, S17, opv, opvs, eget, env0, setD, lenStr, lenSl, isNilP, isNilS, putAt, if_true, if_false, reduceCtorEq, Nat.reduceLeDiff, Nat.reduceEqDiff, Nat.reduceSub, Nat.reduceMul, Nat.reduceAdd]
  refine call_by (by rw [List.append_nil]; exact toStringS n4 _ b4 (by omega)) ?_
  rintro u4 σ' ⟨τ4, j4, rfl, o4, w4⟩
  have e4 := o4.one
  simp -implicitDefEqProofs only [one_cells e4, e4, S0, S1, S2, S3, S4, S5, S6, S7, S8, S9, S10, S11, S12, S13, S14, S15, S16, S17, opv, opvs, eget, env0, setD, lenStr, lenSl, isNilP, isNilS, putAt, if_true, if_false, reduceCtorEq, Nat.reduceLeDiff, Nat.reduceEqDiff, Nat.reduceSub, Nat.reduceMul, Nat.reduceAdd]
  refine fin_keep (by simp) ⟨_, _, (j4 ++ []), rfl, rfl, (OwnL.str (OwnL.int (OwnL.int (OwnL.int (OwnL.lst (own_pre (A := [_, _, _]) (A' := [_, _, _]) (B := τ4) (B' := τ4) o4 w4 (List.append_assoc ..) rfl rfl (by simp) (by simp)) (OwnL.str (OwnL.int (OwnL.bool (OwnL.bool (OwnL.str (OwnL.str OwnL.nil0))))))))))), ?_⟩
  simp only [List.length_append, List.length_cons, List.length_nil] at w4 ⊢
  refine Wi.mono (a := σ.length) ?_ (Nat.le_refl _) (Nat.le_refl _)
  exact wi_last w4 (by omega) (by omega)
theorem toGateField_x {n0} {n1} {n2} {n3} {n4} {n5} {n6} {n7} {n8} {n9} {n10} (σ : Store) (b0 : n0.length ≤ maxLen) (b1 : (Lit.int .i64 n1).wf = true) (b2 : (Lit.int .i64 n2).wf = true) (b3 : (Lit.int .i64 n3).wf = true) (b4 : T.is (.sl 1 [.str]) n4) (b5 : n5.length ≤ maxLen) (b6 : (Lit.int .i64 n6).wf = true) (b9 : n9.length ≤ maxLen) (b10 : n10.length ≤ maxLen) (hz : n0.length + n4.size + n5.length + n9.length + n10.length ≤ 1048576) : ACalls Try.prog 30 [.agg [.t (.str n0), .t (.int .i64 n1), .t (.int .i64 n2), .t (.int .i64 n3), .t n4, .t (.str n5), .t (.int .i64 n6), .t (.bool n7), .t (.bool n8), .t (.str n9), .t (.str n10)]] σ (ToLR [(.str n0), (.int .i64 n1), (.int .i64 n2), (.int .i64 n3), n4, (.str n5), (.int .i64 n6), (.bool n7), (.bool n8), (.str n9), (.str n10)] σ) := by
  have h := toGateField [(.str n0), (.int .i64 n1), (.int .i64 n2), (.int .i64 n3), n4, (.str n5), (.int .i64 n6), (.bool n7), (.bool n8), (.str n9), (.str n10)] σ (mkGateField b0 b1 b2 b3 b4 b5 b6 b9 b10) (by rw [sizeGateField]; omega)
  exact h
theorem i_szGateFieldS : Is Try.prog 149 27 [(.tmp 4)] (tSzS 11 28) := ⟨_, _, Try.func149, by decide +kernel, rfl, rfl, by kernel_rfl, rfl⟩
theorem szGateFieldS : SzOk Try.prog 149 (.sl 11 shGateField) := szS_ok rfl i_szGateFieldS szGateField
theorem i_eqGateFieldS : Is Try.prog 153 27 [(.tmp 4)] (tEqS 11 32) := ⟨_, _, Try.func153, by decide +kernel, rfl, rfl, by kernel_rfl, rfl⟩
theorem eqGateFieldS : EqOk Try.prog 153 (.sl 11 shGateField) := eqS_ok rfl i_eqGateFieldS eqGateField
theorem i_toGateFieldS : Is Try.prog 152 23 [(.tmp 2)] (tToS 11 128 30 [.t (.str []), .t (.int .i64 0), .t (.int .i64 0), .t (.int .i64 0), .nils, .t (.str []), .t (.int .i64 0), .t (.bool false), .t (.bool false), .t (.str []), .t (.str [])]) := ⟨_, _, Try.func152, by decide +kernel, rfl, rfl, by kernel_rfl, rfl⟩
theorem toGateFieldS : ToOk Try.prog 152 (.sl 11 shGateField) := toS_ok 128 [.t (.str []), .t (.int .i64 0), .t (.int .i64 0), .t (.int .i64 0), .nils, .t (.str []), .t (.int .i64 0), .t (.bool false), .t (.bool false), .t (.str []), .t (.str [])] rfl (by decide) rfl (by decide) i_toGateFieldS toGateField
def shGateShape : List Sh := [.str, .sl 11 shGateField]
theorem isGateShape {ts : List T} (ht : T.isL shGateShape ts) : ∃ n0 n1, ts = [(.str n0), n1] ∧ n0.length ≤ maxLen ∧ T.is (.sl 11 shGateField) n1 := by
  simp only [shGateShape, isL_cons, isL_nil, is_int, is_bool, is_str] at ht
  obtain ⟨_, _, rfl, ⟨n0, rfl, b0⟩, n1, _, rfl, b1, rfl⟩ := ht
  exact ⟨_, _, rfl, b0, b1⟩
theorem mkGateShape {n0} {n1} (b0 : n0.length ≤ maxLen) (b1 : T.is (.sl 11 shGateField) n1) : T.isL shGateShape [(.str n0), n1] := by
  simp only [shGateShape, isL_cons, isL_nil, is_int, is_bool, is_str]
  exact ⟨_, _, rfl, ⟨_, rfl, b0⟩, _, _, rfl, b1, rfl⟩
theorem sizeGateShape {n0} {n1} : T.sizeL [(.str n0), n1] = n0.length + n1.size := by
  simp only [sizeL_cons, sizeL_nil, size_int, size_bool, size_str]
  try omega
def c_laws_szGateShape : C := (.seq (.ops [⟨(some 2), none, (.box (.t 0))⟩, ⟨(some 4), none, (.mv (.c (.t (.int .i64 0))))⟩]) (.seq (.ops [⟨(some 5), none, (.mv (.t 1))⟩, ⟨(some 6), none, (.fieldAddr 0 (.t 2))⟩, ⟨(some 7), none, (.load none (.t 6))⟩, ⟨(some 8), none, (.len true (.t 7))⟩, ⟨(some 9), none, (.bin .sub (.t 5) (.t 8))⟩, ⟨(some 1), none, (.mv (.t 9))⟩]) (.seq (.seq (.ops [⟨(some 10), none, (.mv (.t 1))⟩, ⟨(some 11), none, (.bin .lss (.t 10) (.c (.t (.int .i64 0))))⟩]) (.cond (.t 11) (.seq (.ops [⟨(some 4), none, (.mv (.c (.t (.int .i64 (-1)))))⟩]) .ret) .skip)) (.seq (.ops [⟨(some 12), none, (.fieldAddr 1 (.t 2))⟩, ⟨(some 13), none, (.load none (.t 12))⟩, ⟨(some 14), none, (.mv (.t 1))⟩, ⟨(some 15), none, (.call (.c (.fn (.func 149) [])) [(.t 13), (.t 14)])⟩, ⟨(some 1), none, (.mv (.t 15))⟩]) (.seq (.seq (.ops [⟨(some 16), none, (.mv (.t 1))⟩, ⟨(some 17), none, (.bin .lss (.t 16) (.c (.t (.int .i64 0))))⟩]) (.cond (.t 17) (.seq (.ops [⟨(some 4), none, (.mv (.c (.t (.int .i64 (-1)))))⟩]) .ret) .skip)) (.seq (.ops [⟨(some 18), none, (.mv (.t 1))⟩, ⟨(some 4), none, (.mv (.t 18))⟩]) .ret))))))
theorem k_laws_szGateShape : comp Try.prog 19 (Try.f106.body.getD .skip) = some c_laws_szGateShape := by kernel_rfl

theorem szGateShape : SzLOk Try.prog 106 shGateShape := by
  rintro ts left σ ht h0 h1
  obtain ⟨n0, n1, rfl, b0, b1⟩ := isGateShape ht
  refine acalls_of Try.func106 (by decide +kernel) (code := Try.f106.body.getD .skip) (n := 19) (c := c_laws_szGateShape) (rs := [(.tmp 4)]) rfl rfl k_laws_szGateShape (by kernel_rfl) (by simp) (fun hσ => ?_)
  try simp only [maxLen] at *
  have fin : ∀ {n : Int} {τ : Store}, n ≤ left → (0 ≤ n → ((n0.length + n1.size : Nat) : Int) + n ≤ left) → retV σ.length (SzR (T.sizeL [(.str n0), n1]) left σ) (σ ++ τ) (some [.t (.int .i64 n)]) := fun h h' => ret_same rfl hσ rfl ⟨⟨_, rfl, h, fun h0 => by have := h' h0; rw [sizeGateShape]; exact this⟩, rfl⟩
  have w0 : IntKind.i64.wrap (left - n0.length) = left - n0.length := IntWalk.i64_in _ (by omega)
  simp -implicitDefEqProofs only [c_laws_szGateShape, w0, S0, S1, S2, S3, S4, S5, S6, S7, S8, S9, S10, S11, S12, S13, S14, S15, S16, S17, opv, opvs, eget, env0, setD, lenStr, lenSl, isNilP, isNilS, putAt, if_true, if_false, reduceCtorEq, Nat.reduceLeDiff, Nat.reduceEqDiff, Nat.reduceSub, Nat.reduceMul, Nat.reduceAdd]
  refine cond_split (fun h => ?_) (fun h => ?_)
  · simp -implicitDefEqProofs only [S0, S1, S2, S3, S4, S5, S6, S7, S8, S9, S10, S11, S12, S13, S14, S15, S16, S17, opv, opvs, eget, env0, setD, lenStr, lenSl, isNilP, isNilS, putAt, if_true, if_false, reduceCtorEq, Nat.reduceLeDiff, Nat.reduceEqDiff, Nat.reduceSub, Nat.reduceMul, Nat.reduceAdd]
    simp only [decide_eq_true_eq] at h
    exact fin (by omega) (by omega)
  simp only [decide_eq_false_iff_not, Int.not_lt] at h
  simp -implicitDefEqProofs only [S0, S1, S2, S3, S4, S5, S6, S7, S8, S9, S10, S11, S12, S13, S14, S15, S16, S17, opv, opvs, eget, env0, setD, lenStr, lenSl, isNilP, isNilS, putAt, if_true, if_false, reduceCtorEq, Nat.reduceLeDiff, Nat.reduceEqDiff, Nat.reduceSub, Nat.reduceMul, Nat.reduceAdd]
  refine call_by (by rw [List.append_nil]; exact szGateFieldS n1 (left - n0.length) _ b1 (by omega) (by omega)) ?_
  rintro r σ' ⟨⟨m1, rfl, hm1, hs1⟩, rfl⟩
  try simp only [sizeGateShape] at hs1
  simp -implicitDefEqProofs only [S0, S1, S2, S3, S4, S5, S6, S7, S8, S9, S10, S11, S12, S13, S14, S15, S16, S17, opv, opvs, eget, env0, setD, lenStr, lenSl, isNilP, isNilS, putAt, if_true, if_false, reduceCtorEq, Nat.reduceLeDiff, Nat.reduceEqDiff, Nat.reduceSub, Nat.reduceMul, Nat.reduceAdd]
  refine cond_split (fun h => ?_) (fun h => ?_)
  · simp -implicitDefEqProofs only [S0, S1, S2, S3, S4, S5, S6, S7, S8, S9, S10, S11, S12, S13, S14, S15, S16, S17, opv, opvs, eget, env0, setD, lenStr, lenSl, isNilP, isNilS, putAt, if_true, if_false, reduceCtorEq, Nat.reduceLeDiff, Nat.reduceEqDiff, Nat.reduceSub, Nat.reduceMul, Nat.reduceAdd]
    simp only [decide_eq_true_eq] at h
    exact fin (by omega) (by omega)
  simp only [decide_eq_false_iff_not, Int.not_lt] at h
  replace hs1 := hs1 h
  simp -implicitDefEqProofs only [S0, S1, S2, S3, S4, S5, S6, S7, S8, S9, S10, S11, S12, S13, S14, S15, S16, S17, opv, opvs, eget, env0, setD, lenStr, lenSl, isNilP, isNilS, putAt, if_true, if_false, reduceCtorEq, Nat.reduceLeDiff, Nat.reduceEqDiff, Nat.reduceSub, Nat.reduceMul, Nat.reduceAdd]
  exact fin (by omega) (fun _ => by omega)
theorem szGateShape_x {n0} {n1} (left : Int) (σ : Store) (b0 : n0.length ≤ maxLen) (b1 : T.is (.sl 11 shGateField) n1) (h0 : 0 ≤ left) (h1 : left ≤ 1048576) : ACalls Try.prog 106 [.agg [.t (.str n0), .t n1], .t (.int .i64 left)] σ (SzR (T.sizeL [(.str n0), n1]) left σ) := by
  have h := szGateShape [(.str n0), n1] left σ (mkGateShape b0 b1) h0 h1
  exact h
def c_laws_eqGateShape : C := (.seq (.ops [⟨(some 2), none, (.box (.t 0))⟩, ⟨(some 3), none, (.box (.t 1))⟩, ⟨(some 4), none, (.mv (.c (.t (.bool false))))⟩]) (.seq (.seq (.ops [⟨(some 5), none, (.fieldAddr 0 (.t 2))⟩, ⟨(some 6), none, (.load none (.t 5))⟩, ⟨(some 7), none, (.fieldAddr 0 (.t 3))⟩, ⟨(some 8), none, (.load none (.t 7))⟩, ⟨(some 9), none, (.bin .neq (.t 6) (.t 8))⟩]) (.cond (.t 9) (.seq (.ops [⟨(some 4), none, (.mv (.c (.t (.bool false))))⟩]) .ret) .skip)) (.seq (.seq (.ops [⟨(some 10), none, (.fieldAddr 1 (.t 2))⟩, ⟨(some 11), none, (.load none (.t 10))⟩, ⟨(some 12), none, (.fieldAddr 1 (.t 3))⟩, ⟨(some 13), none, (.load none (.t 12))⟩, ⟨(some 14), none, (.call (.c (.fn (.func 153) [])) [(.t 11), (.t 13)])⟩, ⟨(some 15), none, (.un .not (.t 14))⟩]) (.cond (.t 15) (.seq (.ops [⟨(some 4), none, (.mv (.c (.t (.bool false))))⟩]) .ret) .skip)) (.seq (.ops [⟨(some 4), none, (.mv (.c (.t (.bool true))))⟩]) .ret))))
theorem k_laws_eqGateShape : comp Try.prog 16 (Try.f111.body.getD .skip) = some c_laws_eqGateShape := by kernel_rfl

theorem eqGateShape : EqLOk Try.prog 111 shGateShape := by
  rintro ts σ ht h1
  obtain ⟨n0, n1, rfl, b0, b1⟩ := isGateShape ht
  rw [sizeGateShape] at h1
  refine acalls_of Try.func111 (by decide +kernel) (code := Try.f111.body.getD .skip) (n := 16) (c := c_laws_eqGateShape) (rs := [(.tmp 4)]) rfl rfl k_laws_eqGateShape (by kernel_rfl) (by simp) (fun hσ => ?_)
  simp -implicitDefEqProofs only [c_laws_eqGateShape, ne_self, beq_self_eq_true, S0, S1, S2, S3, S4, S5, S6, S7, S8, S9, S10, S11, S12, S13, S14, S15, S16, S17, opv, opvs, eget, env0, setD, lenStr, lenSl, isNilP, isNilS, putAt, if_true, if_false, reduceCtorEq, Nat.reduceLeDiff, Nat.reduceEqDiff, Nat.reduceSub, Nat.reduceMul, Nat.reduceAdd]
  refine call_pure (eqGateFieldS n1 _ b1 (by omega)) ?_
  simp -implicitDefEqProofs only [ne_self, beq_self_eq_true, S0, S1, S2, S3, S4, S5, S6, S7, S8, S9, S10, S11, S12, S13, S14, S15, S16, S17, opv, opvs, eget, env0, setD, lenStr, lenSl, isNilP, isNilS, putAt, if_true, if_false, reduceCtorEq, Nat.reduceLeDiff, Nat.reduceEqDiff, Nat.reduceSub, Nat.reduceMul, Nat.reduceAdd]
  exact ret_same rfl hσ rfl ⟨rfl, rfl⟩
theorem eqGateShape_x {n0} {n1} (σ : Store) (b0 : n0.length ≤ maxLen) (b1 : T.is (.sl 11 shGateField) n1) (hz : n0.length + n1.size ≤ 1099511627776) : ACalls Try.prog 111 [.agg [.t (.str n0), .t n1], .agg [.t (.str n0), .t n1]] σ (TrueR σ) := by
  have h := eqGateShape [(.str n0), n1] σ (mkGateShape b0 b1) (by rw [sizeGateShape]; omega)
  exact h
def c_laws_toGateShape : C := (.seq (.ops [⟨(some 1), none, (.box (.t 0))⟩, ⟨(some 2), none, (.new [(.t (.str [])), .nils])⟩]) (.seq (.ops [⟨(some 3), none, (.new [(.t (.str [])), .nils])⟩]) (.seq (.ops [⟨(some 4), none, (.fieldAddr 0 (.t 1))⟩, ⟨(some 5), none, (.load none (.t 4))⟩, ⟨(some 6), none, (.fieldAddr 0 (.t 3))⟩, ⟨none, none, (.store 1 (.t 6) (.t 5))⟩]) (.seq (.ops [⟨(some 7), none, (.fieldAddr 1 (.t 1))⟩, ⟨(some 8), none, (.load none (.t 7))⟩, ⟨(some 9), none, (.call (.c (.fn (.func 152) [])) [(.t 8)])⟩, ⟨(some 10), none, (.fieldAddr 1 (.t 3))⟩, ⟨none, none, (.store 1 (.t 10) (.t 9))⟩]) (.seq (.ops [⟨(some 11), none, (.load (some 2) (.t 3))⟩, ⟨none, none, (.store 2 (.t 2) (.t 11))⟩]) .ret)))))
theorem k_laws_toGateShape : comp Try.prog 12 (Try.f108.body.getD .skip) = some c_laws_toGateShape := by kernel_rfl

theorem toGateShape : ToLOk Try.prog 108 shGateShape := by
  rintro ts σ ht h1
  obtain ⟨n0, n1, rfl, b0, b1⟩ := isGateShape ht
  rw [sizeGateShape] at h1
  refine acalls_of Try.func108 (by decide +kernel) (code := Try.f108.body.getD .skip) (n := 12) (c := c_laws_toGateShape) (rs := [(.cell 2 (some 2))]) rfl rfl k_laws_toGateShape (by kernel_rfl) (by simp) (fun hσ => ?_)
  simp -implicitDefEqProofs only [c_laws_toGateShape, S0, S1, S2, S3, S4, S5, S6, S7, S8, S9, S10, S11, S12, S13, S14, S15, S16, S17, opv, opvs, eget, env0, setD, lenStr, lenSl, isNilP, isNilS, putAt, if_true, if_false, reduceCtorEq, Nat.reduceLeDiff, Nat.reduceEqDiff, Nat.reduceSub, Nat.reduceMul, Nat.reduceAdd]
  refine call_by (by rw [List.append_nil]; exact toGateFieldS n1 _ b1 (by omega)) ?_
  rintro u1 σ' ⟨τ1, j1, rfl, o1, w1⟩
  have e1 := o1.one
  simp -implicitDefEqProofs only [one_cells e1, e1, S0, S1, S2, S3, S4, S5, S6, S7, S8, S9, S10, S11, S12, S13, S14, S15, S16, S17, opv, opvs, eget, env0, setD, lenStr, lenSl, isNilP, isNilS, putAt, if_true, if_false, reduceCtorEq, Nat.reduceLeDiff, Nat.reduceEqDiff, Nat.reduceSub, Nat.reduceMul, Nat.reduceAdd]
  refine fin_keep (by simp) ⟨_, _, (j1 ++ []), rfl, rfl, (OwnL.str (OwnL.lst (own_pre (A := [_, _, _]) (A' := [_, _, _]) (B := τ1) (B' := τ1) o1 w1 (List.append_assoc ..) rfl rfl (by simp) (by simp)) OwnL.nil0)), ?_⟩
  simp only [List.length_append, List.length_cons, List.length_nil] at w1 ⊢
  refine Wi.mono (a := σ.length) ?_ (Nat.le_refl _) (Nat.le_refl _)
  exact wi_last w1 (by omega) (by omega)
theorem toGateShape_x {n0} {n1} (σ : Store) (b0 : n0.length ≤ maxLen) (b1 : T.is (.sl 11 shGateField) n1) (hz : n0.length + n1.size ≤ 1048576) : ACalls Try.prog 108 [.agg [.t (.str n0), .t n1]] σ (ToLR [(.str n0), n1] σ) := by
  have h := toGateShape [(.str n0), n1] σ (mkGateShape b0 b1) (by rw [sizeGateShape]; omega)
  exact h
theorem i_szGateShapeS : Is Try.prog 50 27 [(.tmp 4)] (tSzS 2 106) := ⟨_, _, Try.func50, by decide +kernel, rfl, rfl, by kernel_rfl, rfl⟩
theorem szGateShapeS : SzOk Try.prog 50 (.sl 2 shGateShape) := szS_ok rfl i_szGateShapeS szGateShape
theorem i_eqGateShapeS : Is Try.prog 54 27 [(.tmp 4)] (tEqS 2 111) := ⟨_, _, Try.func54, by decide +kernel, rfl, rfl, by kernel_rfl, rfl⟩
theorem eqGateShapeS : EqOk Try.prog 54 (.sl 2 shGateShape) := eqS_ok rfl i_eqGateShapeS eqGateShape
theorem i_toGateShapeS : Is Try.prog 52 23 [(.tmp 2)] (tToS 2 40 108 [.t (.str []), .nils]) := ⟨_, _, Try.func52, by decide +kernel, rfl, rfl, by kernel_rfl, rfl⟩
theorem toGateShapeS : ToOk Try.prog 52 (.sl 2 shGateShape) := toS_ok 40 [.t (.str []), .nils] rfl (by decide) rfl (by decide) i_toGateShapeS toGateShape
end Go.Proofs.Ytgdmgoidfglobaa.W
