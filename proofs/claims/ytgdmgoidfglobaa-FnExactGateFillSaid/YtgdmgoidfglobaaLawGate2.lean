/- What the laws' own helpers do with these structs: sizes, copies, comparing (printed by laws.py). Conditions: none. -/
/- What the laws' own helpers do with these structs: sizes, copies, comparing (printed by laws.py). Conditions: none. -/
import Derived.Test.YtgdmgoidfglobaaAb3
import Derived.IntWalk
import Derived.Test.YtgdmgoidfglobaaProg
import Derived.KernelRfl
set_option linter.unusedSimpArgs false
set_option linter.unusedVariables false
set_option linter.defProp false

section
open Go Go.Ab
set_option maxHeartbeats 2000000
namespace Go.Proofs.Ytgdmgoidfglobaa.W
theorem i_szStringS : Is Try.prog 85 28 [(.tmp 4)] (tSzStr) := ⟨_, _, Try.func85, by decide +kernel, rfl, rfl, by kernel_rfl, rfl⟩
theorem szStringS : SzOk Try.prog 85 (.sl 1 [.str]) := szStr_ok i_szStringS
theorem i_szIntS : Is Try.prog 92 12 [(.tmp 4)] (tSzInt) := ⟨_, _, Try.func92, by decide +kernel, rfl, rfl, by kernel_rfl, rfl⟩
theorem szIntS : SzOk Try.prog 92 (.sl 1 [.int .i64]) := szInt_ok i_szIntS
theorem i_eqStringS : Is Try.prog 91 26 [(.tmp 4)] (tEq1) := ⟨_, _, Try.func91, by decide +kernel, rfl, rfl, by kernel_rfl, rfl⟩
theorem eqStringS : EqOk Try.prog 91 (.sl 1 [.str]) := eqStr_ok i_eqStringS
theorem i_eqIntS : Is Try.prog 98 26 [(.tmp 4)] (tEq1) := ⟨_, _, Try.func98, by decide +kernel, rfl, rfl, by kernel_rfl, rfl⟩
theorem eqIntS : EqOk Try.prog 98 (.sl 1 [.int .i64]) := eqInt_ok i_eqIntS
theorem i_toStringS : Is Try.prog 89 22 [(.tmp 2)] (tTo1 16 [.t (.str [])]) := ⟨_, _, Try.func89, by decide +kernel, rfl, rfl, by kernel_rfl, rfl⟩
theorem toStringS : ToOk Try.prog 89 (.sl 1 [.str]) := to1_ok 16 [.t (.str [])] sc_str rfl (by decide) i_toStringS
theorem i_toIntS : Is Try.prog 95 22 [(.tmp 2)] (tTo1 8 [.t (.int .i64 0)]) := ⟨_, _, Try.func95, by decide +kernel, rfl, rfl, by kernel_rfl, rfl⟩
theorem toIntS : ToOk Try.prog 95 (.sl 1 [.int .i64]) := to1_ok 8 [.t (.int .i64 0)] sc_int rfl (by decide) i_toIntS
def shGateTeam : List Sh := [.str, .str]
theorem isGateTeam {ts : List T} (ht : T.isL shGateTeam ts) : ∃ n0 n1, ts = [(.str n0), (.str n1)] ∧ n0.length ≤ maxLen ∧ n1.length ≤ maxLen := by
  simp only [shGateTeam, isL_cons, isL_nil, is_int, is_bool, is_str] at ht
  obtain ⟨_, _, rfl, ⟨n0, rfl, b0⟩, _, _, rfl, ⟨n1, rfl, b1⟩, rfl⟩ := ht
  exact ⟨_, _, rfl, b0, b1⟩
theorem mkGateTeam {n0} {n1} (b0 : n0.length ≤ maxLen) (b1 : n1.length ≤ maxLen) : T.isL shGateTeam [(.str n0), (.str n1)] := by
  simp only [shGateTeam, isL_cons, isL_nil, is_int, is_bool, is_str]
  exact ⟨_, _, rfl, ⟨_, rfl, b0⟩, _, _, rfl, ⟨_, rfl, b1⟩, rfl⟩
theorem sizeGateTeam {n0} {n1} : T.sizeL [(.str n0), (.str n1)] = n0.length + n1.length := by
  simp only [sizeL_cons, sizeL_nil, size_int, size_bool, size_str]
  try omega
def c_laws_szGateTeam : C := (.seq (.ops [⟨(some 2), none, (.box (.t 0))⟩, ⟨(some 4), none, (.mv (.c (.t (.int .i64 0))))⟩]) (.seq (.ops [⟨(some 5), none, (.mv (.t 1))⟩, ⟨(some 6), none, (.fieldAddr 0 (.t 2))⟩, ⟨(some 7), none, (.load none (.t 6))⟩, ⟨(some 8), none, (.len true (.t 7))⟩, ⟨(some 9), none, (.bin .sub (.t 5) (.t 8))⟩, ⟨(some 1), none, (.mv (.t 9))⟩]) (.seq (.seq (.ops [⟨(some 10), none, (.mv (.t 1))⟩, ⟨(some 11), none, (.bin .lss (.t 10) (.c (.t (.int .i64 0))))⟩]) (.cond (.t 11) (.seq (.ops [⟨(some 4), none, (.mv (.c (.t (.int .i64 (-1)))))⟩]) .ret) .skip)) (.seq (.ops [⟨(some 12), none, (.mv (.t 1))⟩, ⟨(some 13), none, (.fieldAddr 1 (.t 2))⟩, ⟨(some 14), none, (.load none (.t 13))⟩, ⟨(some 15), none, (.len true (.t 14))⟩, ⟨(some 16), none, (.bin .sub (.t 12) (.t 15))⟩, ⟨(some 1), none, (.mv (.t 16))⟩]) (.seq (.seq (.ops [⟨(some 17), none, (.mv (.t 1))⟩, ⟨(some 18), none, (.bin .lss (.t 17) (.c (.t (.int .i64 0))))⟩]) (.cond (.t 18) (.seq (.ops [⟨(some 4), none, (.mv (.c (.t (.int .i64 (-1)))))⟩]) .ret) .skip)) (.seq (.ops [⟨(some 19), none, (.mv (.t 1))⟩, ⟨(some 4), none, (.mv (.t 19))⟩]) .ret))))))
theorem k_laws_szGateTeam : comp Try.prog 20 (Try.f65.body.getD .skip) = some c_laws_szGateTeam := by kernel_rfl

theorem szGateTeam : SzLOk Try.prog 65 shGateTeam := by
  rintro ts left σ ht h0 h1
  obtain ⟨n0, n1, rfl, b0, b1⟩ := isGateTeam ht
  refine acalls_of Try.func65 (by decide +kernel) (code := Try.f65.body.getD .skip) (n := 20) (c := c_laws_szGateTeam) (rs := [(.tmp 4)]) rfl rfl k_laws_szGateTeam (by kernel_rfl) (by simp) (fun hσ => ?_)
  try simp only [maxLen] at *
  have fin : ∀ {n : Int} {τ : Store}, n ≤ left → (0 ≤ n → ((n0.length + n1.length : Nat) : Int) + n ≤ left) → retV σ.length (SzR (T.sizeL [(.str n0), (.str n1)]) left σ) (σ ++ τ) (some [.t (.int .i64 n)]) := fun h h' => ret_same rfl hσ rfl ⟨⟨_, rfl, h, fun h0 => by have := h' h0; rw [sizeGateTeam]; exact this⟩, rfl⟩
  have w0 : IntKind.i64.wrap (left - n0.length) = left - n0.length := IntWalk.i64_in _ (by omega)
  simp -implicitDefEqProofs only [c_laws_szGateTeam, w0, S0, S1, S2, S3, S4, S5, S6, S7, S8, S9, S10, S11, S12, S13, S14, S15, S16, S17, opv, opvs, eget, env0, setD, lenStr, lenSl, isNilP, isNilS, putAt, if_true, if_false, reduceCtorEq, Nat.reduceLeDiff, Nat.reduceEqDiff, Nat.reduceSub, Nat.reduceMul, Nat.reduceAdd]
  refine cond_split (fun h => ?_) (fun h => ?_)
  · simp -implicitDefEqProofs only [S0, S1, S2, S3, S4, S5, S6, S7, S8, S9, S10, S11, S12, S13, S14, S15, S16, S17, opv, opvs, eget, env0, setD, lenStr, lenSl, isNilP, isNilS, putAt, if_true, if_false, reduceCtorEq, Nat.reduceLeDiff, Nat.reduceEqDiff, Nat.reduceSub, Nat.reduceMul, Nat.reduceAdd]
    simp only [decide_eq_true_eq] at h
    exact fin (by omega) (by omega)
  simp only [decide_eq_false_iff_not, Int.not_lt] at h
  have w1 : IntKind.i64.wrap ((left - n0.length) - n1.length) = (left - n0.length) - n1.length := IntWalk.i64_in _ (by omega)
  simp -implicitDefEqProofs only [w1, S0, S1, S2, S3, S4, S5, S6, S7, S8, S9, S10, S11, S12, S13, S14, S15, S16, S17, opv, opvs, eget, env0, setD, lenStr, lenSl, isNilP, isNilS, putAt, if_true, if_false, reduceCtorEq, Nat.reduceLeDiff, Nat.reduceEqDiff, Nat.reduceSub, Nat.reduceMul, Nat.reduceAdd]
  refine cond_split (fun h => ?_) (fun h => ?_)
  · simp -implicitDefEqProofs only [S0, S1, S2, S3, S4, S5, S6, S7, S8, S9, S10, S11, S12, S13, S14, S15, S16, S17, opv, opvs, eget, env0, setD, lenStr, lenSl, isNilP, isNilS, putAt, if_true, if_false, reduceCtorEq, Nat.reduceLeDiff, Nat.reduceEqDiff, Nat.reduceSub, Nat.reduceMul, Nat.reduceAdd]
    simp only [decide_eq_true_eq] at h
    exact fin (by omega) (by omega)
  simp only [decide_eq_false_iff_not, Int.not_lt] at h
  simp -implicitDefEqProofs only [S0, S1, S2, S3, S4, S5, S6, S7, S8, S9, S10, S11, S12, S13, S14, S15, S16, S17, opv, opvs, eget, env0, setD, lenStr, lenSl, isNilP, isNilS, putAt, if_true, if_false, reduceCtorEq, Nat.reduceLeDiff, Nat.reduceEqDiff, Nat.reduceSub, Nat.reduceMul, Nat.reduceAdd]
  exact fin (by omega) (fun _ => by omega)
theorem szGateTeam_x {n0} {n1} (left : Int) (σ : Store) (b0 : n0.length ≤ maxLen) (b1 : n1.length ≤ maxLen) (h0 : 0 ≤ left) (h1 : left ≤ 1048576) : ACalls Try.prog 65 [.agg [.t (.str n0), .t (.str n1)], .t (.int .i64 left)] σ (SzR (T.sizeL [(.str n0), (.str n1)]) left σ) := by
  have h := szGateTeam [(.str n0), (.str n1)] left σ (mkGateTeam b0 b1) h0 h1
  exact h
def c_laws_eqGateTeam : C := (.seq (.ops [⟨(some 2), none, (.box (.t 0))⟩, ⟨(some 3), none, (.box (.t 1))⟩, ⟨(some 4), none, (.mv (.c (.t (.bool false))))⟩]) (.seq (.seq (.ops [⟨(some 5), none, (.fieldAddr 0 (.t 2))⟩, ⟨(some 6), none, (.load none (.t 5))⟩, ⟨(some 7), none, (.fieldAddr 0 (.t 3))⟩, ⟨(some 8), none, (.load none (.t 7))⟩, ⟨(some 9), none, (.bin .neq (.t 6) (.t 8))⟩]) (.cond (.t 9) (.seq (.ops [⟨(some 4), none, (.mv (.c (.t (.bool false))))⟩]) .ret) .skip)) (.seq (.seq (.ops [⟨(some 10), none, (.fieldAddr 1 (.t 2))⟩, ⟨(some 11), none, (.load none (.t 10))⟩, ⟨(some 12), none, (.fieldAddr 1 (.t 3))⟩, ⟨(some 13), none, (.load none (.t 12))⟩, ⟨(some 14), none, (.bin .neq (.t 11) (.t 13))⟩]) (.cond (.t 14) (.seq (.ops [⟨(some 4), none, (.mv (.c (.t (.bool false))))⟩]) .ret) .skip)) (.seq (.ops [⟨(some 4), none, (.mv (.c (.t (.bool true))))⟩]) .ret))))
theorem k_laws_eqGateTeam : comp Try.prog 15 (Try.f69.body.getD .skip) = some c_laws_eqGateTeam := by kernel_rfl

theorem eqGateTeam : EqLOk Try.prog 69 shGateTeam := by
  rintro ts σ ht h1
  obtain ⟨n0, n1, rfl, b0, b1⟩ := isGateTeam ht
  rw [sizeGateTeam] at h1
  refine acalls_of Try.func69 (by decide +kernel) (code := Try.f69.body.getD .skip) (n := 15) (c := c_laws_eqGateTeam) (rs := [(.tmp 4)]) rfl rfl k_laws_eqGateTeam (by kernel_rfl) (by simp) (fun hσ => ?_)
  simp -implicitDefEqProofs only [c_laws_eqGateTeam, ne_self, beq_self_eq_true, S0, S1, S2, S3, S4, S5, S6, S7, S8, S9, S10, S11, S12, S13, S14, S15, S16, S17, opv, opvs, eget, env0, setD, lenStr, lenSl, isNilP, isNilS, putAt, if_true, if_false, reduceCtorEq, Nat.reduceLeDiff, Nat.reduceEqDiff, Nat.reduceSub, Nat.reduceMul, Nat.reduceAdd]
  exact ret_same rfl hσ rfl ⟨rfl, rfl⟩
theorem eqGateTeam_x {n0} {n1} (σ : Store) (b0 : n0.length ≤ maxLen) (b1 : n1.length ≤ maxLen) (hz : n0.length + n1.length ≤ 1099511627776) : ACalls Try.prog 69 [.agg [.t (.str n0), .t (.str n1)], .agg [.t (.str n0), .t (.str n1)]] σ (TrueR σ) := by
  have h := eqGateTeam [(.str n0), (.str n1)] σ (mkGateTeam b0 b1) (by rw [sizeGateTeam]; omega)
  exact h
def c_laws_toGateTeam : C := (.seq (.ops [⟨(some 1), none, (.box (.t 0))⟩, ⟨(some 2), none, (.new [(.t (.str [])), (.t (.str []))])⟩]) (.seq (.ops [⟨(some 3), none, (.new [(.t (.str [])), (.t (.str []))])⟩]) (.seq (.ops [⟨(some 4), none, (.fieldAddr 0 (.t 1))⟩, ⟨(some 5), none, (.load none (.t 4))⟩, ⟨(some 6), none, (.fieldAddr 0 (.t 3))⟩, ⟨none, none, (.store 1 (.t 6) (.t 5))⟩]) (.seq (.ops [⟨(some 7), none, (.fieldAddr 1 (.t 1))⟩, ⟨(some 8), none, (.load none (.t 7))⟩, ⟨(some 9), none, (.fieldAddr 1 (.t 3))⟩, ⟨none, none, (.store 1 (.t 9) (.t 8))⟩]) (.seq (.ops [⟨(some 10), none, (.load (some 2) (.t 3))⟩, ⟨none, none, (.store 2 (.t 2) (.t 10))⟩]) .ret)))))
theorem k_laws_toGateTeam : comp Try.prog 11 (Try.f67.body.getD .skip) = some c_laws_toGateTeam := by kernel_rfl

theorem toGateTeam : ToLOk Try.prog 67 shGateTeam := by
  rintro ts σ ht h1
  obtain ⟨n0, n1, rfl, b0, b1⟩ := isGateTeam ht
  rw [sizeGateTeam] at h1
  refine acalls_of Try.func67 (by decide +kernel) (code := Try.f67.body.getD .skip) (n := 11) (c := c_laws_toGateTeam) (rs := [(.cell 2 (some 2))]) rfl rfl k_laws_toGateTeam (by kernel_rfl) (by simp) (fun hσ => ?_)
  simp -implicitDefEqProofs only [c_laws_toGateTeam, S0, S1, S2, S3, S4, S5, S6, S7, S8, S9, S10, S11, S12, S13, S14, S15, S16, S17, opv, opvs, eget, env0, setD, lenStr, lenSl, isNilP, isNilS, putAt, if_true, if_false, reduceCtorEq, Nat.reduceLeDiff, Nat.reduceEqDiff, Nat.reduceSub, Nat.reduceMul, Nat.reduceAdd]
  exact fin_keep (by simp) ⟨_, _, [], rfl, rfl, (OwnL.str (OwnL.str OwnL.nil0)), Wi.nil⟩
theorem toGateTeam_x {n0} {n1} (σ : Store) (b0 : n0.length ≤ maxLen) (b1 : n1.length ≤ maxLen) (hz : n0.length + n1.length ≤ 1048576) : ACalls Try.prog 67 [.agg [.t (.str n0), .t (.str n1)]] σ (ToLR [(.str n0), (.str n1)] σ) := by
  have h := toGateTeam [(.str n0), (.str n1)] σ (mkGateTeam b0 b1) (by rw [sizeGateTeam]; omega)
  exact h
theorem i_szGateTeamS : Is Try.prog 13 27 [(.tmp 4)] (tSzS 2 65) := ⟨_, _, Try.func13, by decide +kernel, rfl, rfl, by kernel_rfl, rfl⟩
theorem szGateTeamS : SzOk Try.prog 13 (.sl 2 shGateTeam) := szS_ok rfl i_szGateTeamS szGateTeam
theorem i_eqGateTeamS : Is Try.prog 17 27 [(.tmp 4)] (tEqS 2 69) := ⟨_, _, Try.func17, by decide +kernel, rfl, rfl, by kernel_rfl, rfl⟩
theorem eqGateTeamS : EqOk Try.prog 17 (.sl 2 shGateTeam) := eqS_ok rfl i_eqGateTeamS eqGateTeam
theorem i_toGateTeamS : Is Try.prog 15 23 [(.tmp 2)] (tToS 2 32 67 [.t (.str []), .t (.str [])]) := ⟨_, _, Try.func15, by decide +kernel, rfl, rfl, by kernel_rfl, rfl⟩
theorem toGateTeamS : ToOk Try.prog 15 (.sl 2 shGateTeam) := toS_ok 32 [.t (.str []), .t (.str [])] rfl (by decide) rfl (by decide) i_toGateTeamS toGateTeam
def shGateRule : List Sh := [.sl 1 [.int .i64], .str, .str, .str]
theorem isGateRule {ts : List T} (ht : T.isL shGateRule ts) : ∃ n0 n1 n2 n3, ts = [n0, (.str n1), (.str n2), (.str n3)] ∧ T.is (.sl 1 [.int .i64]) n0 ∧ n1.length ≤ maxLen ∧ n2.length ≤ maxLen ∧ n3.length ≤ maxLen := by
  simp only [shGateRule, isL_cons, isL_nil, is_int, is_bool, is_str] at ht
  obtain ⟨n0, _, rfl, b0, _, _, rfl, ⟨n1, rfl, b1⟩, _, _, rfl, ⟨n2, rfl, b2⟩, _, _, rfl, ⟨n3, rfl, b3⟩, rfl⟩ := ht
  exact ⟨_, _, _, _, rfl, b0, b1, b2, b3⟩
theorem mkGateRule {n0} {n1} {n2} {n3} (b0 : T.is (.sl 1 [.int .i64]) n0) (b1 : n1.length ≤ maxLen) (b2 : n2.length ≤ maxLen) (b3 : n3.length ≤ maxLen) : T.isL shGateRule [n0, (.str n1), (.str n2), (.str n3)] := by
  simp only [shGateRule, isL_cons, isL_nil, is_int, is_bool, is_str]
  exact ⟨_, _, rfl, b0, _, _, rfl, ⟨_, rfl, b1⟩, _, _, rfl, ⟨_, rfl, b2⟩, _, _, rfl, ⟨_, rfl, b3⟩, rfl⟩
theorem sizeGateRule {n0} {n1} {n2} {n3} : T.sizeL [n0, (.str n1), (.str n2), (.str n3)] = n0.size + n1.length + n2.length + n3.length := by
  simp only [sizeL_cons, sizeL_nil, size_int, size_bool, size_str]
  try omega
def c_laws_szGateRule : C := (.seq (.ops [⟨(some 2), none, (.box (.t 0))⟩, ⟨(some 4), none, (.mv (.c (.t (.int .i64 0))))⟩]) (.seq (.ops [⟨(some 5), none, (.fieldAddr 0 (.t 2))⟩, ⟨(some 6), none, (.load none (.t 5))⟩, ⟨(some 7), none, (.mv (.t 1))⟩, ⟨(some 8), none, (.call (.c (.fn (.func 92) [])) [(.t 6), (.t 7)])⟩, ⟨(some 1), none, (.mv (.t 8))⟩]) (.seq (.seq (.ops [⟨(some 9), none, (.mv (.t 1))⟩, ⟨(some 10), none, (.bin .lss (.t 9) (.c (.t (.int .i64 0))))⟩]) (.cond (.t 10) (.seq (.ops [⟨(some 4), none, (.mv (.c (.t (.int .i64 (-1)))))⟩]) .ret) .skip)) (.seq (.ops [⟨(some 11), none, (.mv (.t 1))⟩, ⟨(some 12), none, (.fieldAddr 1 (.t 2))⟩, ⟨(some 13), none, (.load none (.t 12))⟩, ⟨(some 14), none, (.len true (.t 13))⟩, ⟨(some 15), none, (.bin .sub (.t 11) (.t 14))⟩, ⟨(some 1), none, (.mv (.t 15))⟩]) (.seq (.seq (.ops [⟨(some 16), none, (.mv (.t 1))⟩, ⟨(some 17), none, (.bin .lss (.t 16) (.c (.t (.int .i64 0))))⟩]) (.cond (.t 17) (.seq (.ops [⟨(some 4), none, (.mv (.c (.t (.int .i64 (-1)))))⟩]) .ret) .skip)) (.seq (.ops [⟨(some 18), none, (.mv (.t 1))⟩, ⟨(some 19), none, (.fieldAddr 2 (.t 2))⟩, ⟨(some 20), none, (.load none (.t 19))⟩, ⟨(some 21), none, (.len true (.t 20))⟩, ⟨(some 22), none, (.bin .sub (.t 18) (.t 21))⟩, ⟨(some 1), none, (.mv (.t 22))⟩]) (.seq (.seq (.ops [⟨(some 23), none, (.mv (.t 1))⟩, ⟨(some 24), none, (.bin .lss (.t 23) (.c (.t (.int .i64 0))))⟩]) (.cond (.t 24) (.seq (.ops [⟨(some 4), none, (.mv (.c (.t (.int .i64 (-1)))))⟩]) .ret) .skip)) (.seq (.ops [⟨(some 25), none, (.mv (.t 1))⟩, ⟨(some 26), none, (.fieldAddr 3 (.t 2))⟩, ⟨(some 27), none, (.load none (.t 26))⟩, ⟨(some 28), none, (.len true (.t 27))⟩, ⟨(some 29), none, (.bin .sub (.t 25) (.t 28))⟩, ⟨(some 1), none, (.mv (.t 29))⟩]) (.seq (.seq (.ops [⟨(some 30), none, (.mv (.t 1))⟩, ⟨(some 31), none, (.bin .lss (.t 30) (.c (.t (.int .i64 0))))⟩]) (.cond (.t 31) (.seq (.ops [⟨(some 4), none, (.mv (.c (.t (.int .i64 (-1)))))⟩]) .ret) .skip)) (.seq (.ops [⟨(some 32), none, (.mv (.t 1))⟩, ⟨(some 4), none, (.mv (.t 32))⟩]) .ret))))))))))
theorem k_laws_szGateRule : comp Try.prog 33 (Try.f33.body.getD .skip) = some c_laws_szGateRule := by kernel_rfl

theorem szGateRule : SzLOk Try.prog 33 shGateRule := by
  rintro ts left σ ht h0 h1
  obtain ⟨n0, n1, n2, n3, rfl, b0, b1, b2, b3⟩ := isGateRule ht
  refine acalls_of Try.func33 (by decide +kernel) (code := Try.f33.body.getD .skip) (n := 33) (c := c_laws_szGateRule) (rs := [(.tmp 4)]) rfl rfl k_laws_szGateRule (by kernel_rfl) (by simp) (fun hσ => ?_)
  try simp only [maxLen] at *
  have fin : ∀ {n : Int} {τ : Store}, n ≤ left → (0 ≤ n → ((n0.size + n1.length + n2.length + n3.length : Nat) : Int) + n ≤ left) → retV σ.length (SzR (T.sizeL [n0, (.str n1), (.str n2), (.str n3)]) left σ) (σ ++ τ) (some [.t (.int .i64 n)]) := fun h h' => ret_same rfl hσ rfl ⟨⟨_, rfl, h, fun h0 => by have := h' h0; rw [sizeGateRule]; exact this⟩, rfl⟩
  simp -implicitDefEqProofs only [c_laws_szGateRule, S0, S1, S2, S3, S4, S5, S6, S7, S8, S9, S10, S11, S12, S13, S14, S15, S16, S17, opv, opvs, eget, env0, setD, lenStr, lenSl, isNilP, isNilS, putAt, if_true, if_false, reduceCtorEq, Nat.reduceLeDiff, Nat.reduceEqDiff, Nat.reduceSub, Nat.reduceMul, Nat.reduceAdd]
  refine call_by (by rw [List.append_nil]; exact szIntS n0 left _ b0 (by omega) (by omega)) ?_
  rintro r σ' ⟨⟨m0, rfl, hm0, hs0⟩, rfl⟩
  try simp only [sizeGateRule] at hs0
  simp -implicitDefEqProofs only [S0, S1, S2, S3, S4, S5, S6, S7, S8, S9, S10, S11, S12, S13, S14, S15, S16, S17, opv, opvs, eget, env0, setD, lenStr, lenSl, isNilP, isNilS, putAt, if_true, if_false, reduceCtorEq, Nat.reduceLeDiff, Nat.reduceEqDiff, Nat.reduceSub, Nat.reduceMul, Nat.reduceAdd]
  refine cond_split (fun h => ?_) (fun h => ?_)
  · simp -implicitDefEqProofs only [S0, S1, S2, S3, S4, S5, S6, S7, S8, S9, S10, S11, S12, S13, S14, S15, S16, S17, opv, opvs, eget, env0, setD, lenStr, lenSl, isNilP, isNilS, putAt, if_true, if_false, reduceCtorEq, Nat.reduceLeDiff, Nat.reduceEqDiff, Nat.reduceSub, Nat.reduceMul, Nat.reduceAdd]
    simp only [decide_eq_true_eq] at h
    exact fin (by omega) (by omega)
  simp only [decide_eq_false_iff_not, Int.not_lt] at h
  replace hs0 := hs0 h
  have w1 : IntKind.i64.wrap (m0 - n1.length) = m0 - n1.length := IntWalk.i64_in _ (by omega)
  simp -implicitDefEqProofs only [w1, S0, S1, S2, S3, S4, S5, S6, S7, S8, S9, S10, S11, S12, S13, S14, S15, S16, S17, opv, opvs, eget, env0, setD, lenStr, lenSl, isNilP, isNilS, putAt, if_true, if_false, reduceCtorEq, Nat.reduceLeDiff, Nat.reduceEqDiff, Nat.reduceSub, Nat.reduceMul, Nat.reduceAdd]
  refine cond_split (fun h => ?_) (fun h => ?_)
  · simp -implicitDefEqProofs only [S0, S1, S2, S3, S4, S5, S6, S7, S8, S9, S10, S11, S12, S13, S14, S15, S16, S17, opv, opvs, eget, env0, setD, lenStr, lenSl, isNilP, isNilS, putAt, if_true, if_false, reduceCtorEq, Nat.reduceLeDiff, Nat.reduceEqDiff, Nat.reduceSub, Nat.reduceMul, Nat.reduceAdd]
    simp only [decide_eq_true_eq] at h
    exact fin (by omega) (by omega)
  simp only [decide_eq_false_iff_not, Int.not_lt] at h
  have w2 : IntKind.i64.wrap ((m0 - n1.length) - n2.length) = (m0 - n1.length) - n2.length := IntWalk.i64_in _ (by omega)
  simp -implicitDefEqProofs only [w2, S0, S1, S2, S3, S4, S5, S6, S7, S8, S9, S10, S11, S12, S13, S14, S15, S16, S17, opv, opvs, eget, env0, setD, lenStr, lenSl, isNilP, isNilS, putAt, if_true, if_false, reduceCtorEq, Nat.reduceLeDiff, Nat.reduceEqDiff, Nat.reduceSub, Nat.reduceMul, Nat.reduceAdd]
  refine cond_split (fun h => ?_) (fun h => ?_)
  · simp -implicitDefEqProofs only [S0, S1, S2, S3, S4, S5, S6, S7, S8, S9, S10, S11, S12, S13, S14, S15, S16, S17, opv, opvs, eget, env0, setD, lenStr, lenSl, isNilP, isNilS, putAt, if_true, if_false, reduceCtorEq, Nat.reduceLeDiff, Nat.reduceEqDiff, Nat.reduceSub, Nat.reduceMul, Nat.reduceAdd]
    simp only [decide_eq_true_eq] at h
    exact fin (by omega) (by omega)
  simp only [decide_eq_false_iff_not, Int.not_lt] at h
  have w3 : IntKind.i64.wrap (((m0 - n1.length) - n2.length) - n3.length) = ((m0 - n1.length) - n2.length) - n3.length := IntWalk.i64_in _ (by omega)
  simp -implicitDefEqProofs only [w3, S0, S1, S2, S3, S4, S5, S6, S7, S8, S9, S10, S11, S12, S13, S14, S15, S16, S17, opv, opvs, eget, env0, setD, lenStr, lenSl, isNilP, isNilS, putAt, if_true, if_false, reduceCtorEq, Nat.reduceLeDiff, Nat.reduceEqDiff, Nat.reduceSub, Nat.reduceMul, Nat.reduceAdd]
  refine cond_split (fun h => ?_) (fun h => ?_)
  · simp -implicitDefEqProofs only [S0, S1, S2, S3, S4, S5, S6, S7, S8, S9, S10, S11, S12, S13, S14, S15, S16, S17, opv, opvs, eget, env0, setD, lenStr, lenSl, isNilP, isNilS, putAt, if_true, if_false, reduceCtorEq, Nat.reduceLeDiff, Nat.reduceEqDiff, Nat.reduceSub, Nat.reduceMul, Nat.reduceAdd]
    simp only [decide_eq_true_eq] at h
    exact fin (by omega) (by omega)
  simp only [decide_eq_false_iff_not, Int.not_lt] at h
  simp -implicitDefEqProofs only [S0, S1, S2, S3, S4, S5, S6, S7, S8, S9, S10, S11, S12, S13, S14, S15, S16, S17, opv, opvs, eget, env0, setD, lenStr, lenSl, isNilP, isNilS, putAt, if_true, if_false, reduceCtorEq, Nat.reduceLeDiff, Nat.reduceEqDiff, Nat.reduceSub, Nat.reduceMul, Nat.reduceAdd]
  exact fin (by omega) (fun _ => by omega)
theorem szGateRule_x {n0} {n1} {n2} {n3} (left : Int) (σ : Store) (b0 : T.is (.sl 1 [.int .i64]) n0) (b1 : n1.length ≤ maxLen) (b2 : n2.length ≤ maxLen) (b3 : n3.length ≤ maxLen) (h0 : 0 ≤ left) (h1 : left ≤ 1048576) : ACalls Try.prog 33 [.agg [.t n0, .t (.str n1), .t (.str n2), .t (.str n3)], .t (.int .i64 left)] σ (SzR (T.sizeL [n0, (.str n1), (.str n2), (.str n3)]) left σ) := by
  have h := szGateRule [n0, (.str n1), (.str n2), (.str n3)] left σ (mkGateRule b0 b1 b2 b3) h0 h1
  exact h
def c_laws_eqGateRule : C := (.seq (.ops [⟨(some 2), none, (.box (.t 0))⟩, ⟨(some 3), none, (.box (.t 1))⟩, ⟨(some 4), none, (.mv (.c (.t (.bool false))))⟩]) (.seq (.seq (.ops [⟨(some 5), none, (.fieldAddr 0 (.t 2))⟩, ⟨(some 6), none, (.load none (.t 5))⟩, ⟨(some 7), none, (.fieldAddr 0 (.t 3))⟩, ⟨(some 8), none, (.load none (.t 7))⟩, ⟨(some 9), none, (.call (.c (.fn (.func 98) [])) [(.t 6), (.t 8)])⟩, ⟨(some 10), none, (.un .not (.t 9))⟩]) (.cond (.t 10) (.seq (.ops [⟨(some 4), none, (.mv (.c (.t (.bool false))))⟩]) .ret) .skip)) (.seq (.seq (.ops [⟨(some 11), none, (.fieldAddr 1 (.t 2))⟩, ⟨(some 12), none, (.load none (.t 11))⟩, ⟨(some 13), none, (.fieldAddr 1 (.t 3))⟩, ⟨(some 14), none, (.load none (.t 13))⟩, ⟨(some 15), none, (.bin .neq (.t 12) (.t 14))⟩]) (.cond (.t 15) (.seq (.ops [⟨(some 4), none, (.mv (.c (.t (.bool false))))⟩]) .ret) .skip)) (.seq (.seq (.ops [⟨(some 16), none, (.fieldAddr 2 (.t 2))⟩, ⟨(some 17), none, (.load none (.t 16))⟩, ⟨(some 18), none, (.fieldAddr 2 (.t 3))⟩, ⟨(some 19), none, (.load none (.t 18))⟩, ⟨(some 20), none, (.bin .neq (.t 17) (.t 19))⟩]) (.cond (.t 20) (.seq (.ops [⟨(some 4), none, (.mv (.c (.t (.bool false))))⟩]) .ret) .skip)) (.seq (.seq (.ops [⟨(some 21), none, (.fieldAddr 3 (.t 2))⟩, ⟨(some 22), none, (.load none (.t 21))⟩, ⟨(some 23), none, (.fieldAddr 3 (.t 3))⟩, ⟨(some 24), none, (.load none (.t 23))⟩, ⟨(some 25), none, (.bin .neq (.t 22) (.t 24))⟩]) (.cond (.t 25) (.seq (.ops [⟨(some 4), none, (.mv (.c (.t (.bool false))))⟩]) .ret) .skip)) (.seq (.ops [⟨(some 4), none, (.mv (.c (.t (.bool true))))⟩]) .ret))))))
theorem k_laws_eqGateRule : comp Try.prog 26 (Try.f39.body.getD .skip) = some c_laws_eqGateRule := by kernel_rfl

theorem eqGateRule : EqLOk Try.prog 39 shGateRule := by
  rintro ts σ ht h1
  obtain ⟨n0, n1, n2, n3, rfl, b0, b1, b2, b3⟩ := isGateRule ht
  rw [sizeGateRule] at h1
  refine acalls_of Try.func39 (by decide +kernel) (code := Try.f39.body.getD .skip) (n := 26) (c := c_laws_eqGateRule) (rs := [(.tmp 4)]) rfl rfl k_laws_eqGateRule (by kernel_rfl) (by simp) (fun hσ => ?_)
  simp -implicitDefEqProofs only [c_laws_eqGateRule, ne_self, beq_self_eq_true, S0, S1, S2, S3, S4, S5, S6, S7, S8, S9, S10, S11, S12, S13, S14, S15, S16, S17, opv, opvs, eget, env0, setD, lenStr, lenSl, isNilP, isNilS, putAt, if_true, if_false, reduceCtorEq, Nat.reduceLeDiff, Nat.reduceEqDiff, Nat.reduceSub, Nat.reduceMul, Nat.reduceAdd]
  refine call_pure (eqIntS n0 _ b0 (by omega)) ?_
  simp -implicitDefEqProofs only [ne_self, beq_self_eq_true, S0, S1, S2, S3, S4, S5, S6, S7, S8, S9, S10, S11, S12, S13, S14, S15, S16, S17, opv, opvs, eget, env0, setD, lenStr, lenSl, isNilP, isNilS, putAt, if_true, if_false, reduceCtorEq, Nat.reduceLeDiff, Nat.reduceEqDiff, Nat.reduceSub, Nat.reduceMul, Nat.reduceAdd]
  exact ret_same rfl hσ rfl ⟨rfl, rfl⟩
theorem eqGateRule_x {n0} {n1} {n2} {n3} (σ : Store) (b0 : T.is (.sl 1 [.int .i64]) n0) (b1 : n1.length ≤ maxLen) (b2 : n2.length ≤ maxLen) (b3 : n3.length ≤ maxLen) (hz : n0.size + n1.length + n2.length + n3.length ≤ 1099511627776) : ACalls Try.prog 39 [.agg [.t n0, .t (.str n1), .t (.str n2), .t (.str n3)], .agg [.t n0, .t (.str n1), .t (.str n2), .t (.str n3)]] σ (TrueR σ) := by
  have h := eqGateRule [n0, (.str n1), (.str n2), (.str n3)] σ (mkGateRule b0 b1 b2 b3) (by rw [sizeGateRule]; omega)
  exact h
def c_laws_toGateRule : C := (.seq (.ops [⟨(some 1), none, (.box (.t 0))⟩, ⟨(some 2), none, (.new [.nils, (.t (.str [])), (.t (.str [])), (.t (.str []))])⟩]) (.seq (.ops [⟨(some 3), none, (.new [.nils, (.t (.str [])), (.t (.str [])), (.t (.str []))])⟩]) (.seq (.ops [⟨(some 4), none, (.fieldAddr 0 (.t 1))⟩, ⟨(some 5), none, (.load none (.t 4))⟩, ⟨(some 6), none, (.call (.c (.fn (.func 95) [])) [(.t 5)])⟩, ⟨(some 7), none, (.fieldAddr 0 (.t 3))⟩, ⟨none, none, (.store 1 (.t 7) (.t 6))⟩]) (.seq (.ops [⟨(some 8), none, (.fieldAddr 1 (.t 1))⟩, ⟨(some 9), none, (.load none (.t 8))⟩, ⟨(some 10), none, (.fieldAddr 1 (.t 3))⟩, ⟨none, none, (.store 1 (.t 10) (.t 9))⟩]) (.seq (.ops [⟨(some 11), none, (.fieldAddr 2 (.t 1))⟩, ⟨(some 12), none, (.load none (.t 11))⟩, ⟨(some 13), none, (.fieldAddr 2 (.t 3))⟩, ⟨none, none, (.store 1 (.t 13) (.t 12))⟩]) (.seq (.ops [⟨(some 14), none, (.fieldAddr 3 (.t 1))⟩, ⟨(some 15), none, (.load none (.t 14))⟩, ⟨(some 16), none, (.fieldAddr 3 (.t 3))⟩, ⟨none, none, (.store 1 (.t 16) (.t 15))⟩]) (.seq (.ops [⟨(some 17), none, (.load (some 4) (.t 3))⟩, ⟨none, none, (.store 4 (.t 2) (.t 17))⟩]) .ret)))))))
theorem k_laws_toGateRule : comp Try.prog 18 (Try.f36.body.getD .skip) = some c_laws_toGateRule := by kernel_rfl

theorem toGateRule : ToLOk Try.prog 36 shGateRule := by
  rintro ts σ ht h1
  obtain ⟨n0, n1, n2, n3, rfl, b0, b1, b2, b3⟩ := isGateRule ht
  rw [sizeGateRule] at h1
  refine acalls_of Try.func36 (by decide +kernel) (code := Try.f36.body.getD .skip) (n := 18) (c := c_laws_toGateRule) (rs := [(.cell 2 (some 4))]) rfl rfl k_laws_toGateRule (by kernel_rfl) (by simp) (fun hσ => ?_)
  simp -implicitDefEqProofs only [c_laws_toGateRule, S0, S1, S2, S3, S4, S5, S6, S7, S8, S9, S10, S11, S12, S13, S14, S15, S16, S17, opv, opvs, eget, env0, setD, lenStr, lenSl, isNilP, isNilS, putAt, if_true, if_false, reduceCtorEq, Nat.reduceLeDiff, Nat.reduceEqDiff, Nat.reduceSub, Nat.reduceMul, Nat.reduceAdd]
  refine call_by (by rw [List.append_nil]; exact toIntS n0 _ b0 (by omega)) ?_
  rintro u0 σ' ⟨τ0, j0, rfl, o0, w0⟩
  have e0 := o0.one
  simp -implicitDefEqProofs only [one_cells e0, e0, S0, S1, S2, S3, S4, S5, S6, S7, S8, S9, S10, S11, S12, S13, S14, S15, S16, S17, opv, opvs, eget, env0, setD, lenStr, lenSl, isNilP, isNilS, putAt, if_true, if_false, reduceCtorEq, Nat.reduceLeDiff, Nat.reduceEqDiff, Nat.reduceSub, Nat.reduceMul, Nat.reduceAdd]
  refine fin_keep (by simp) ⟨_, _, (j0 ++ []), rfl, rfl, (OwnL.lst (own_pre (A := [_, _, _]) (A' := [_, _, _]) (B := τ0) (B' := τ0) o0 w0 (List.append_assoc ..) rfl rfl (by simp) (by simp)) (OwnL.str (OwnL.str (OwnL.str OwnL.nil0)))), ?_⟩
  simp only [List.length_append, List.length_cons, List.length_nil] at w0 ⊢
  refine Wi.mono (a := σ.length) ?_ (Nat.le_refl _) (Nat.le_refl _)
  exact wi_last w0 (by omega) (by omega)
theorem toGateRule_x {n0} {n1} {n2} {n3} (σ : Store) (b0 : T.is (.sl 1 [.int .i64]) n0) (b1 : n1.length ≤ maxLen) (b2 : n2.length ≤ maxLen) (b3 : n3.length ≤ maxLen) (hz : n0.size + n1.length + n2.length + n3.length ≤ 1048576) : ACalls Try.prog 36 [.agg [.t n0, .t (.str n1), .t (.str n2), .t (.str n3)]] σ (ToLR [n0, (.str n1), (.str n2), (.str n3)] σ) := by
  have h := toGateRule [n0, (.str n1), (.str n2), (.str n3)] σ (mkGateRule b0 b1 b2 b3) (by rw [sizeGateRule]; omega)
  exact h
theorem i_szGateRuleS : Is Try.prog 40 27 [(.tmp 4)] (tSzS 4 33) := ⟨_, _, Try.func40, by decide +kernel, rfl, rfl, by kernel_rfl, rfl⟩
theorem szGateRuleS : SzOk Try.prog 40 (.sl 4 shGateRule) := szS_ok rfl i_szGateRuleS szGateRule
theorem i_eqGateRuleS : Is Try.prog 44 27 [(.tmp 4)] (tEqS 4 39) := ⟨_, _, Try.func44, by decide +kernel, rfl, rfl, by kernel_rfl, rfl⟩
theorem eqGateRuleS : EqOk Try.prog 44 (.sl 4 shGateRule) := eqS_ok rfl i_eqGateRuleS eqGateRule
theorem i_toGateRuleS : Is Try.prog 42 23 [(.tmp 2)] (tToS 4 72 36 [.nils, .t (.str []), .t (.str []), .t (.str [])]) := ⟨_, _, Try.func42, by decide +kernel, rfl, rfl, by kernel_rfl, rfl⟩
theorem toGateRuleS : ToOk Try.prog 42 (.sl 4 shGateRule) := toS_ok 72 [.nils, .t (.str []), .t (.str []), .t (.str [])] rfl (by decide) rfl (by decide) i_toGateRuleS toGateRule
def shGateAct : List Sh := [.int .i64, .str, .str, .str]
theorem isGateAct {ts : List T} (ht : T.isL shGateAct ts) : ∃ n0 n1 n2 n3, ts = [(.int .i64 n0), (.str n1), (.str n2), (.str n3)] ∧ (Lit.int .i64 n0).wf = true ∧ n1.length ≤ maxLen ∧ n2.length ≤ maxLen ∧ n3.length ≤ maxLen := by
  simp only [shGateAct, isL_cons, isL_nil, is_int, is_bool, is_str] at ht
  obtain ⟨_, _, rfl, ⟨n0, rfl, b0⟩, _, _, rfl, ⟨n1, rfl, b1⟩, _, _, rfl, ⟨n2, rfl, b2⟩, _, _, rfl, ⟨n3, rfl, b3⟩, rfl⟩ := ht
  exact ⟨_, _, _, _, rfl, b0, b1, b2, b3⟩
theorem mkGateAct {n0} {n1} {n2} {n3} (b0 : (Lit.int .i64 n0).wf = true) (b1 : n1.length ≤ maxLen) (b2 : n2.length ≤ maxLen) (b3 : n3.length ≤ maxLen) : T.isL shGateAct [(.int .i64 n0), (.str n1), (.str n2), (.str n3)] := by
  simp only [shGateAct, isL_cons, isL_nil, is_int, is_bool, is_str]
  exact ⟨_, _, rfl, ⟨_, rfl, b0⟩, _, _, rfl, ⟨_, rfl, b1⟩, _, _, rfl, ⟨_, rfl, b2⟩, _, _, rfl, ⟨_, rfl, b3⟩, rfl⟩
theorem sizeGateAct {n0} {n1} {n2} {n3} : T.sizeL [(.int .i64 n0), (.str n1), (.str n2), (.str n3)] = n1.length + n2.length + n3.length := by
  simp only [sizeL_cons, sizeL_nil, size_int, size_bool, size_str]
  try omega
def c_laws_szGateAct : C := (.seq (.ops [⟨(some 2), none, (.box (.t 0))⟩, ⟨(some 4), none, (.mv (.c (.t (.int .i64 0))))⟩]) (.seq (.ops [⟨(some 5), none, (.mv (.t 1))⟩, ⟨(some 6), none, (.fieldAddr 1 (.t 2))⟩, ⟨(some 7), none, (.load none (.t 6))⟩, ⟨(some 8), none, (.len true (.t 7))⟩, ⟨(some 9), none, (.bin .sub (.t 5) (.t 8))⟩, ⟨(some 1), none, (.mv (.t 9))⟩]) (.seq (.seq (.ops [⟨(some 10), none, (.mv (.t 1))⟩, ⟨(some 11), none, (.bin .lss (.t 10) (.c (.t (.int .i64 0))))⟩]) (.cond (.t 11) (.seq (.ops [⟨(some 4), none, (.mv (.c (.t (.int .i64 (-1)))))⟩]) .ret) .skip)) (.seq (.ops [⟨(some 12), none, (.mv (.t 1))⟩, ⟨(some 13), none, (.fieldAddr 2 (.t 2))⟩, ⟨(some 14), none, (.load none (.t 13))⟩, ⟨(some 15), none, (.len true (.t 14))⟩, ⟨(some 16), none, (.bin .sub (.t 12) (.t 15))⟩, ⟨(some 1), none, (.mv (.t 16))⟩]) (.seq (.seq (.ops [⟨(some 17), none, (.mv (.t 1))⟩, ⟨(some 18), none, (.bin .lss (.t 17) (.c (.t (.int .i64 0))))⟩]) (.cond (.t 18) (.seq (.ops [⟨(some 4), none, (.mv (.c (.t (.int .i64 (-1)))))⟩]) .ret) .skip)) (.seq (.ops [⟨(some 19), none, (.mv (.t 1))⟩, ⟨(some 20), none, (.fieldAddr 3 (.t 2))⟩, ⟨(some 21), none, (.load none (.t 20))⟩, ⟨(some 22), none, (.len true (.t 21))⟩, ⟨(some 23), none, (.bin .sub (.t 19) (.t 22))⟩, ⟨(some 1), none, (.mv (.t 23))⟩]) (.seq (.seq (.ops [⟨(some 24), none, (.mv (.t 1))⟩, ⟨(some 25), none, (.bin .lss (.t 24) (.c (.t (.int .i64 0))))⟩]) (.cond (.t 25) (.seq (.ops [⟨(some 4), none, (.mv (.c (.t (.int .i64 (-1)))))⟩]) .ret) .skip)) (.seq (.ops [⟨(some 26), none, (.mv (.t 1))⟩, ⟨(some 4), none, (.mv (.t 26))⟩]) .ret))))))))
theorem k_laws_szGateAct : comp Try.prog 27 (Try.f34.body.getD .skip) = some c_laws_szGateAct := by kernel_rfl

theorem szGateAct : SzLOk Try.prog 34 shGateAct := by
  rintro ts left σ ht h0 h1
  obtain ⟨n0, n1, n2, n3, rfl, b0, b1, b2, b3⟩ := isGateAct ht
  refine acalls_of Try.func34 (by decide +kernel) (code := Try.f34.body.getD .skip) (n := 27) (c := c_laws_szGateAct) (rs := [(.tmp 4)]) rfl rfl k_laws_szGateAct (by kernel_rfl) (by simp) (fun hσ => ?_)
  try simp only [maxLen] at *
  have fin : ∀ {n : Int} {τ : Store}, n ≤ left → (0 ≤ n → ((n1.length + n2.length + n3.length : Nat) : Int) + n ≤ left) → retV σ.length (SzR (T.sizeL [(.int .i64 n0), (.str n1), (.str n2), (.str n3)]) left σ) (σ ++ τ) (some [.t (.int .i64 n)]) := fun h h' => ret_same rfl hσ rfl ⟨⟨_, rfl, h, fun h0 => by have := h' h0; rw [sizeGateAct]; exact this⟩, rfl⟩
  have w1 : IntKind.i64.wrap (left - n1.length) = left - n1.length := IntWalk.i64_in _ (by omega)
  simp -implicitDefEqProofs only [c_laws_szGateAct, w1, S0, S1, S2, S3, S4, S5, S6, S7, S8, S9, S10, S11, S12, S13, S14, S15, S16, S17, opv, opvs, eget, env0, setD, lenStr, lenSl, isNilP, isNilS, putAt, if_true, if_false, reduceCtorEq, Nat.reduceLeDiff, Nat.reduceEqDiff, Nat.reduceSub, Nat.reduceMul, Nat.reduceAdd]
  refine cond_split (fun h => ?_) (fun h => ?_)
  · simp -implicitDefEqProofs only [S0, S1, S2, S3, S4, S5, S6, S7, S8, S9, S10, S11, S12, S13, S14, S15, S16, S17, opv, opvs, eget, env0, setD, lenStr, lenSl, isNilP, isNilS, putAt, if_true, if_false, reduceCtorEq, Nat.reduceLeDiff, Nat.reduceEqDiff, Nat.reduceSub, Nat.reduceMul, Nat.reduceAdd]
    simp only [decide_eq_true_eq] at h
    exact fin (by omega) (by omega)
  simp only [decide_eq_false_iff_not, Int.not_lt] at h
  have w2 : IntKind.i64.wrap ((left - n1.length) - n2.length) = (left - n1.length) - n2.length := IntWalk.i64_in _ (by omega)
  simp -implicitDefEqProofs only [w2, S0, S1, S2, S3, S4, S5, S6, S7, S8, S9, S10, S11, S12, S13, S14, S15, S16, S17, opv, opvs, eget, env0, setD, lenStr, lenSl, isNilP, isNilS, putAt, if_true, if_false, reduceCtorEq, Nat.reduceLeDiff, Nat.reduceEqDiff, Nat.reduceSub, Nat.reduceMul, Nat.reduceAdd]
  refine cond_split (fun h => ?_) (fun h => ?_)
  · simp -implicitDefEqProofs only [S0, S1, S2, S3, S4, S5, S6, S7, S8, S9, S10, S11, S12, S13, S14, S15, S16, S17, opv, opvs, eget, env0, setD, lenStr, lenSl, isNilP, isNilS, putAt, if_true, if_false, reduceCtorEq, Nat.reduceLeDiff, Nat.reduceEqDiff, Nat.reduceSub, Nat.reduceMul, Nat.reduceAdd]
    simp only [decide_eq_true_eq] at h
    exact fin (by omega) (by omega)
  simp only [decide_eq_false_iff_not, Int.not_lt] at h
  have w3 : IntKind.i64.wrap (((left - n1.length) - n2.length) - n3.length) = ((left - n1.length) - n2.length) - n3.length := IntWalk.i64_in _ (by omega)
  simp -implicitDefEqProofs only [w3, S0, S1, S2, S3, S4, S5, S6, S7, S8, S9, S10, S11, S12, S13, S14, S15, S16, S17, opv, opvs, eget, env0, setD, lenStr, lenSl, isNilP, isNilS, putAt, if_true, if_false, reduceCtorEq, Nat.reduceLeDiff, Nat.reduceEqDiff, Nat.reduceSub, Nat.reduceMul, Nat.reduceAdd]
  refine cond_split (fun h => ?_) (fun h => ?_)
  · simp -implicitDefEqProofs only [S0, S1, S2, S3, S4, S5, S6, S7, S8, S9, S10, S11, S12, S13, S14, S15, S16, S17, opv, opvs, eget, env0, setD, lenStr, lenSl, isNilP, isNilS, putAt, if_true, if_false, reduceCtorEq, Nat.reduceLeDiff, Nat.reduceEqDiff, Nat.reduceSub, Nat.reduceMul, Nat.reduceAdd]
    simp only [decide_eq_true_eq] at h
    exact fin (by omega) (by omega)
  simp only [decide_eq_false_iff_not, Int.not_lt] at h
  simp -implicitDefEqProofs only [S0, S1, S2, S3, S4, S5, S6, S7, S8, S9, S10, S11, S12, S13, S14, S15, S16, S17, opv, opvs, eget, env0, setD, lenStr, lenSl, isNilP, isNilS, putAt, if_true, if_false, reduceCtorEq, Nat.reduceLeDiff, Nat.reduceEqDiff, Nat.reduceSub, Nat.reduceMul, Nat.reduceAdd]
  exact fin (by omega) (fun _ => by omega)
theorem szGateAct_x {n0} {n1} {n2} {n3} (left : Int) (σ : Store) (b0 : (Lit.int .i64 n0).wf = true) (b1 : n1.length ≤ maxLen) (b2 : n2.length ≤ maxLen) (b3 : n3.length ≤ maxLen) (h0 : 0 ≤ left) (h1 : left ≤ 1048576) : ACalls Try.prog 34 [.agg [.t (.int .i64 n0), .t (.str n1), .t (.str n2), .t (.str n3)], .t (.int .i64 left)] σ (SzR (T.sizeL [(.int .i64 n0), (.str n1), (.str n2), (.str n3)]) left σ) := by
  have h := szGateAct [(.int .i64 n0), (.str n1), (.str n2), (.str n3)] left σ (mkGateAct b0 b1 b2 b3) h0 h1
  exact h
def c_laws_toGateAct : C := (.seq (.ops [⟨(some 1), none, (.box (.t 0))⟩, ⟨(some 2), none, (.new [(.t (.int .i64 0)), (.t (.str [])), (.t (.str [])), (.t (.str []))])⟩]) (.seq (.ops [⟨(some 3), none, (.new [(.t (.int .i64 0)), (.t (.str [])), (.t (.str [])), (.t (.str []))])⟩]) (.seq (.ops [⟨(some 4), none, (.fieldAddr 0 (.t 1))⟩, ⟨(some 5), none, (.load none (.t 4))⟩, ⟨(some 6), none, (.fieldAddr 0 (.t 3))⟩, ⟨none, none, (.store 1 (.t 6) (.t 5))⟩]) (.seq (.ops [⟨(some 7), none, (.fieldAddr 1 (.t 1))⟩, ⟨(some 8), none, (.load none (.t 7))⟩, ⟨(some 9), none, (.fieldAddr 1 (.t 3))⟩, ⟨none, none, (.store 1 (.t 9) (.t 8))⟩]) (.seq (.ops [⟨(some 10), none, (.fieldAddr 2 (.t 1))⟩, ⟨(some 11), none, (.load none (.t 10))⟩, ⟨(some 12), none, (.fieldAddr 2 (.t 3))⟩, ⟨none, none, (.store 1 (.t 12) (.t 11))⟩]) (.seq (.ops [⟨(some 13), none, (.fieldAddr 3 (.t 1))⟩, ⟨(some 14), none, (.load none (.t 13))⟩, ⟨(some 15), none, (.fieldAddr 3 (.t 3))⟩, ⟨none, none, (.store 1 (.t 15) (.t 14))⟩]) (.seq (.ops [⟨(some 16), none, (.load (some 4) (.t 3))⟩, ⟨none, none, (.store 4 (.t 2) (.t 16))⟩]) .ret)))))))
theorem k_laws_toGateAct : comp Try.prog 17 (Try.f37.body.getD .skip) = some c_laws_toGateAct := by kernel_rfl

theorem toGateAct : ToLOk Try.prog 37 shGateAct := by
  rintro ts σ ht h1
  obtain ⟨n0, n1, n2, n3, rfl, b0, b1, b2, b3⟩ := isGateAct ht
  rw [sizeGateAct] at h1
  refine acalls_of Try.func37 (by decide +kernel) (code := Try.f37.body.getD .skip) (n := 17) (c := c_laws_toGateAct) (rs := [(.cell 2 (some 4))]) rfl rfl k_laws_toGateAct (by kernel_rfl) (by simp) (fun hσ => ?_)
  simp -implicitDefEqProofs only [c_laws_toGateAct, S0, S1, S2, S3, S4, S5, S6, S7, S8, S9, S10, S11, S12, S13, S14, S15, S16, S17, opv, opvs, eget, env0, setD, lenStr, lenSl, isNilP, isNilS, putAt, if_true, if_false, reduceCtorEq, Nat.reduceLeDiff, Nat.reduceEqDiff, Nat.reduceSub, Nat.reduceMul, Nat.reduceAdd]
  exact fin_keep (by simp) ⟨_, _, [], rfl, rfl, (OwnL.int (OwnL.str (OwnL.str (OwnL.str OwnL.nil0)))), Wi.nil⟩
theorem toGateAct_x {n0} {n1} {n2} {n3} (σ : Store) (b0 : (Lit.int .i64 n0).wf = true) (b1 : n1.length ≤ maxLen) (b2 : n2.length ≤ maxLen) (b3 : n3.length ≤ maxLen) (hz : n1.length + n2.length + n3.length ≤ 1048576) : ACalls Try.prog 37 [.agg [.t (.int .i64 n0), .t (.str n1), .t (.str n2), .t (.str n3)]] σ (ToLR [(.int .i64 n0), (.str n1), (.str n2), (.str n3)] σ) := by
  have h := toGateAct [(.int .i64 n0), (.str n1), (.str n2), (.str n3)] σ (mkGateAct b0 b1 b2 b3) (by rw [sizeGateAct]; omega)
  exact h
def shGateField : List Sh := [.str, .int .i64, .int .i64, .int .i64, .sl 1 [.str], .str, .int .i64, .bool, .bool, .str, .str]
theorem isGateField {ts : List T} (ht : T.isL shGateField ts) : ∃ n0 n1 n2 n3 n4 n5 n6 n7 n8 n9 n10, ts = [(.str n0), (.int .i64 n1), (.int .i64 n2), (.int .i64 n3), n4, (.str n5), (.int .i64 n6), (.bool n7), (.bool n8), (.str n9), (.str n10)] ∧ n0.length ≤ maxLen ∧ (Lit.int .i64 n1).wf = true ∧ (Lit.int .i64 n2).wf = true ∧ (Lit.int .i64 n3).wf = true ∧ T.is (.sl 1 [.str]) n4 ∧ n5.length ≤ maxLen ∧ (Lit.int .i64 n6).wf = true ∧ n9.length ≤ maxLen ∧ n10.length ≤ maxLen := by
  simp only [shGateField, isL_cons, isL_nil, is_int, is_bool, is_str] at ht
  obtain ⟨_, _, rfl, ⟨n0, rfl, b0⟩, _, _, rfl, ⟨n1, rfl, b1⟩, _, _, rfl, ⟨n2, rfl, b2⟩, _, _, rfl, ⟨n3, rfl, b3⟩, n4, _, rfl, b4, _, _, rfl, ⟨n5, rfl, b5⟩, _, _, rfl, ⟨n6, rfl, b6⟩, _, _, rfl, ⟨n7, rfl⟩, _, _, rfl, ⟨n8, rfl⟩, _, _, rfl, ⟨n9, rfl, b9⟩, _, _, rfl, ⟨n10, rfl, b10⟩, rfl⟩ := ht
  exact ⟨_, _, _, _, _, _, _, _, _, _, _, rfl, b0, b1, b2, b3, b4, b5, b6, b9, b10⟩
theorem mkGateField {n0} {n1} {n2} {n3} {n4} {n5} {n6} {n7} {n8} {n9} {n10} (b0 : n0.length ≤ maxLen) (b1 : (Lit.int .i64 n1).wf = true) (b2 : (Lit.int .i64 n2).wf = true) (b3 : (Lit.int .i64 n3).wf = true) (b4 : T.is (.sl 1 [.str]) n4) (b5 : n5.length ≤ maxLen) (b6 : (Lit.int .i64 n6).wf = true) (b9 : n9.length ≤ maxLen) (b10 : n10.length ≤ maxLen) : T.isL shGateField [(.str n0), (.int .i64 n1), (.int .i64 n2), (.int .i64 n3), n4, (.str n5), (.int .i64 n6), (.bool n7), (.bool n8), (.str n9), (.str n10)] := by
  simp only [shGateField, isL_cons, isL_nil, is_int, is_bool, is_str]
  exact ⟨_, _, rfl, ⟨_, rfl, b0⟩, _, _, rfl, ⟨_, rfl, b1⟩, _, _, rfl, ⟨_, rfl, b2⟩, _, _, rfl, ⟨_, rfl, b3⟩, _, _, rfl, b4, _, _, rfl, ⟨_, rfl, b5⟩, _, _, rfl, ⟨_, rfl, b6⟩, _, _, rfl, ⟨_, rfl⟩, _, _, rfl, ⟨_, rfl⟩, _, _, rfl, ⟨_, rfl, b9⟩, _, _, rfl, ⟨_, rfl, b10⟩, rfl⟩
theorem sizeGateField {n0} {n1} {n2} {n3} {n4} {n5} {n6} {n7} {n8} {n9} {n10} : T.sizeL [(.str n0), (.int .i64 n1), (.int .i64 n2), (.int .i64 n3), n4, (.str n5), (.int .i64 n6), (.bool n7), (.bool n8), (.str n9), (.str n10)] = n0.length + n4.size + n5.length + n9.length + n10.length := by
  simp only [sizeL_cons, sizeL_nil, size_int, size_bool, size_str]
  try omega
def c_laws_szGateField : C := (.seq (.ops [⟨(some 2), none, (.box (.t 0))⟩, ⟨(some 4), none, (.mv (.c (.t (.int .i64 0))))⟩]) (.seq (.ops [⟨(some 5), none, (.mv (.t 1))⟩, ⟨(some 6), none, (.fieldAddr 0 (.t 2))⟩, ⟨(some 7), none, (.load none (.t 6))⟩, ⟨(some 8), none, (.len true (.t 7))⟩, ⟨(some 9), none, (.bin .sub (.t 5) (.t 8))⟩, ⟨(some 1), none, (.mv (.t 9))⟩]) (.seq (.seq (.ops [⟨(some 10), none, (.mv (.t 1))⟩, ⟨(some 11), none, (.bin .lss (.t 10) (.c (.t (.int .i64 0))))⟩]) (.cond (.t 11) (.seq (.ops [⟨(some 4), none, (.mv (.c (.t (.int .i64 (-1)))))⟩]) .ret) .skip)) (.seq (.ops [⟨(some 12), none, (.fieldAddr 4 (.t 2))⟩, ⟨(some 13), none, (.load none (.t 12))⟩, ⟨(some 14), none, (.mv (.t 1))⟩, ⟨(some 15), none, (.call (.c (.fn (.func 85) [])) [(.t 13), (.t 14)])⟩, ⟨(some 1), none, (.mv (.t 15))⟩]) (.seq (.seq (.ops [⟨(some 16), none, (.mv (.t 1))⟩, ⟨(some 17), none, (.bin .lss (.t 16) (.c (.t (.int .i64 0))))⟩]) (.cond (.t 17) (.seq (.ops [⟨(some 4), none, (.mv (.c (.t (.int .i64 (-1)))))⟩]) .ret) .skip)) (.seq (.ops [⟨(some 18), none, (.mv (.t 1))⟩, ⟨(some 19), none, (.fieldAddr 5 (.t 2))⟩, ⟨(some 20), none, (.load none (.t 19))⟩, ⟨(some 21), none, (.len true (.t 20))⟩, ⟨(some 22), none, (.bin .sub (.t 18) (.t 21))⟩, ⟨(some 1), none, (.mv (.t 22))⟩]) (.seq (.seq (.ops [⟨(some 23), none, (.mv (.t 1))⟩, ⟨(some 24), none, (.bin .lss (.t 23) (.c (.t (.int .i64 0))))⟩]) (.cond (.t 24) (.seq (.ops [⟨(some 4), none, (.mv (.c (.t (.int .i64 (-1)))))⟩]) .ret) .skip)) (.seq (.ops [⟨(some 25), none, (.mv (.t 1))⟩, ⟨(some 26), none, (.fieldAddr 9 (.t 2))⟩, ⟨(some 27), none, (.load none (.t 26))⟩, ⟨(some 28), none, (.len true (.t 27))⟩, ⟨(some 29), none, (.bin .sub (.t 25) (.t 28))⟩, ⟨(some 1), none, (.mv (.t 29))⟩]) (.seq (.seq (.ops [⟨(some 30), none, (.mv (.t 1))⟩, ⟨(some 31), none, (.bin .lss (.t 30) (.c (.t (.int .i64 0))))⟩]) (.cond (.t 31) (.seq (.ops [⟨(some 4), none, (.mv (.c (.t (.int .i64 (-1)))))⟩]) .ret) .skip)) (.seq (.ops [⟨(some 32), none, (.mv (.t 1))⟩, ⟨(some 33), none, (.fieldAddr 10 (.t 2))⟩, ⟨(some 34), none, (.load none (.t 33))⟩, ⟨(some 35), none, (.len true (.t 34))⟩, ⟨(some 36), none, (.bin .sub (.t 32) (.t 35))⟩, ⟨(some 1), none, (.mv (.t 36))⟩]) (.seq (.seq (.ops [⟨(some 37), none, (.mv (.t 1))⟩, ⟨(some 38), none, (.bin .lss (.t 37) (.c (.t (.int .i64 0))))⟩]) (.cond (.t 38) (.seq (.ops [⟨(some 4), none, (.mv (.c (.t (.int .i64 (-1)))))⟩]) .ret) .skip)) (.seq (.ops [⟨(some 39), none, (.mv (.t 1))⟩, ⟨(some 4), none, (.mv (.t 39))⟩]) .ret))))))))))))
theorem k_laws_szGateField : comp Try.prog 40 (Try.f28.body.getD .skip) = some c_laws_szGateField := by kernel_rfl

theorem szGateField : SzLOk Try.prog 28 shGateField := by
  rintro ts left σ ht h0 h1
  obtain ⟨n0, n1, n2, n3, n4, n5, n6, n7, n8, n9, n10, rfl, b0, b1, b2, b3, b4, b5, b6, b9, b10⟩ := isGateField ht
  refine acalls_of Try.func28 (by decide +kernel) (code := Try.f28.body.getD .skip) (n := 40) (c := c_laws_szGateField) (rs := [(.tmp 4)]) rfl rfl k_laws_szGateField (by kernel_rfl) (by simp) (fun hσ => ?_)
  try simp only [maxLen] at *
  have fin : ∀ {n : Int} {τ : Store}, n ≤ left → (0 ≤ n → ((n0.length + n4.size + n5.length + n9.length + n10.length : Nat) : Int) + n ≤ left) → retV σ.length (SzR (T.sizeL [(.str n0), (.int .i64 n1), (.int .i64 n2), (.int .i64 n3), n4, (.str n5), (.int .i64 n6), (.bool n7), (.bool n8), (.str n9), (.str n10)]) left σ) (σ ++ τ) (some [.t (.int .i64 n)]) := fun h h' => ret_same rfl hσ rfl ⟨⟨_, rfl, h, fun h0 => by have := h' h0; rw [sizeGateField]; exact this⟩, rfl⟩
  have w0 : IntKind.i64.wrap (left - n0.length) = left - n0.length := IntWalk.i64_in _ (by omega)
  simp -implicitDefEqProofs only [c_laws_szGateField, w0, S0, S1, S2, S3, S4, S5, S6, S7, S8, S9, S10, S11, S12, S13, S14, S15, S16, S17, opv, opvs, eget, env0, setD, lenStr, lenSl, isNilP, isNilS, putAt, if_true, if_false, reduceCtorEq, Nat.reduceLeDiff, Nat.reduceEqDiff, Nat.reduceSub, Nat.reduceMul, Nat.reduceAdd]
  refine cond_split (fun h => ?_) (fun h => ?_)
  · simp -implicitDefEqProofs only [S0, S1, S2, S3, S4, S5, S6, S7, S8, S9, S10, S11, S12, S13, S14, S15, S16, S17, opv, opvs, eget, env0, setD, lenStr, lenSl, isNilP, isNilS, putAt, if_true, if_false, reduceCtorEq, Nat.reduceLeDiff, Nat.reduceEqDiff, Nat.reduceSub, Nat.reduceMul, Nat.reduceAdd]
    simp only [decide_eq_true_eq] at h
    exact fin (by omega) (by omega)
  simp only [decide_eq_false_iff_not, Int.not_lt] at h
  simp -implicitDefEqProofs only [S0, S1, S2, S3, S4, S5, S6, S7, S8, S9, S10, S11, S12, S13, S14, S15, S16, S17, opv, opvs, eget, env0, setD, lenStr, lenSl, isNilP, isNilS, putAt, if_true, if_false, reduceCtorEq, Nat.reduceLeDiff, Nat.reduceEqDiff, Nat.reduceSub, Nat.reduceMul, Nat.reduceAdd]
  refine call_by (by rw [List.append_nil]; exact szStringS n4 (left - n0.length) _ b4 (by omega) (by omega)) ?_
  rintro r σ' ⟨⟨m4, rfl, hm4, hs4⟩, rfl⟩
  try simp only [sizeGateField] at hs4
  simp -implicitDefEqProofs only [S0, S1, S2, S3, S4, S5, S6, S7, S8, S9, S10, S11, S12, S13, S14, S15, S16, S17, opv, opvs, eget, env0, setD, lenStr, lenSl, isNilP, isNilS, putAt, if_true, if_false, reduceCtorEq, Nat.reduceLeDiff, Nat.reduceEqDiff, Nat.reduceSub, Nat.reduceMul, Nat.reduceAdd]
  refine cond_split (fun h => ?_) (fun h => ?_)
  · simp -implicitDefEqProofs only [S0, S1, S2, S3, S4, S5, S6, S7, S8, S9, S10, S11, S12, S13, S14, S15, S16, S17, opv, opvs, eget, env0, setD, lenStr, lenSl, isNilP, isNilS, putAt, if_true, if_false, reduceCtorEq, Nat.reduceLeDiff, Nat.reduceEqDiff, Nat.reduceSub, Nat.reduceMul, Nat.reduceAdd]
    simp only [decide_eq_true_eq] at h
    exact fin (by omega) (by omega)
  simp only [decide_eq_false_iff_not, Int.not_lt] at h
  replace hs4 := hs4 h
  have w5 : IntKind.i64.wrap (m4 - n5.length) = m4 - n5.length := IntWalk.i64_in _ (by omega)
  simp -implicitDefEqProofs only [w5, S0, S1, S2, S3, S4, S5, S6, S7, S8, S9, S10, S11, S12, S13, S14, S15, S16, S17, opv, opvs, eget, env0, setD, lenStr, lenSl, isNilP, isNilS, putAt, if_true, if_false, reduceCtorEq, Nat.reduceLeDiff, Nat.reduceEqDiff, Nat.reduceSub, Nat.reduceMul, Nat.reduceAdd]
  refine cond_split (fun h => ?_) (fun h => ?_)
  · simp -implicitDefEqProofs only [S0, S1, S2, S3, S4, S5, S6, S7, S8, S9, S10, S11, S12, S13, S14, S15, S16, S17, opv, opvs, eget, env0, setD, lenStr, lenSl, isNilP, isNilS, putAt, if_true, if_false, reduceCtorEq, Nat.reduceLeDiff, Nat.reduceEqDiff, Nat.reduceSub, Nat.reduceMul, Nat.reduceAdd]
    simp only [decide_eq_true_eq] at h
    exact fin (by omega) (by omega)
  simp only [decide_eq_false_iff_not, Int.not_lt] at h
  have w9 : IntKind.i64.wrap ((m4 - n5.length) - n9.length) = (m4 - n5.length) - n9.length := IntWalk.i64_in _ (by omega)
  simp -implicitDefEqProofs only [w9, S0, S1, S2, S3, S4, S5, S6, S7, S8, S9, S10, S11, S12, S13, S14, S15, S16, S17, opv, opvs, eget, env0, setD, lenStr, lenSl, isNilP, isNilS, putAt, if_true, if_false, reduceCtorEq, Nat.reduceLeDiff, Nat.reduceEqDiff, Nat.reduceSub, Nat.reduceMul, Nat.reduceAdd]
  refine cond_split (fun h => ?_) (fun h => ?_)
  · simp -implicitDefEqProofs only [S0, S1, S2, S3, S4, S5, S6, S7, S8, S9, S10, S11, S12, S13, S14, S15, S16, S17, opv, opvs, eget, env0, setD, lenStr, lenSl, isNilP, isNilS, putAt, if_true, if_false, reduceCtorEq, Nat.reduceLeDiff, Nat.reduceEqDiff, Nat.reduceSub, Nat.reduceMul, Nat.reduceAdd]
    simp only [decide_eq_true_eq] at h
    exact fin (by omega) (by omega)
  simp only [decide_eq_false_iff_not, Int.not_lt] at h
  have w10 : IntKind.i64.wrap (((m4 - n5.length) - n9.length) - n10.length) = ((m4 - n5.length) - n9.length) - n10.length := IntWalk.i64_in _ (by omega)
  simp -implicitDefEqProofs only [w10, S0, S1, S2, S3, S4, S5, S6, S7, S8, S9, S10, S11, S12, S13, S14, S15, S16, S17, opv, opvs, eget, env0, setD, lenStr, lenSl, isNilP, isNilS, putAt, if_true, if_false, reduceCtorEq, Nat.reduceLeDiff, Nat.reduceEqDiff, Nat.reduceSub, Nat.reduceMul, Nat.reduceAdd]
  refine cond_split (fun h => ?_) (fun h => ?_)
  · simp -implicitDefEqProofs only [S0, S1, S2, S3, S4, S5, S6, S7, S8, S9, S10, S11, S12, S13, S14, S15, S16, S17, opv, opvs, eget, env0, setD, lenStr, lenSl, isNilP, isNilS, putAt, if_true, if_false, reduceCtorEq, Nat.reduceLeDiff, Nat.reduceEqDiff, Nat.reduceSub, Nat.reduceMul, Nat.reduceAdd]
    simp only [decide_eq_true_eq] at h
    exact fin (by omega) (by omega)
  simp only [decide_eq_false_iff_not, Int.not_lt] at h
  simp -implicitDefEqProofs only [S0, S1, S2, S3, S4, S5, S6, S7, S8, S9, S10, S11, S12, S13, S14, S15, S16, S17, opv, opvs, eget, env0, setD, lenStr, lenSl, isNilP, isNilS, putAt, if_true, if_false, reduceCtorEq, Nat.reduceLeDiff, Nat.reduceEqDiff, Nat.reduceSub, Nat.reduceMul, Nat.reduceAdd]
  exact fin (by omega) (fun _ => by omega)
theorem szGateField_x {n0} {n1} {n2} {n3} {n4} {n5} {n6} {n7} {n8} {n9} {n10} (left : Int) (σ : Store) (b0 : n0.length ≤ maxLen) (b1 : (Lit.int .i64 n1).wf = true) (b2 : (Lit.int .i64 n2).wf = true) (b3 : (Lit.int .i64 n3).wf = true) (b4 : T.is (.sl 1 [.str]) n4) (b5 : n5.length ≤ maxLen) (b6 : (Lit.int .i64 n6).wf = true) (b9 : n9.length ≤ maxLen) (b10 : n10.length ≤ maxLen) (h0 : 0 ≤ left) (h1 : left ≤ 1048576) : ACalls Try.prog 28 [.agg [.t (.str n0), .t (.int .i64 n1), .t (.int .i64 n2), .t (.int .i64 n3), .t n4, .t (.str n5), .t (.int .i64 n6), .t (.bool n7), .t (.bool n8), .t (.str n9), .t (.str n10)], .t (.int .i64 left)] σ (SzR (T.sizeL [(.str n0), (.int .i64 n1), (.int .i64 n2), (.int .i64 n3), n4, (.str n5), (.int .i64 n6), (.bool n7), (.bool n8), (.str n9), (.str n10)]) left σ) := by
  have h := szGateField [(.str n0), (.int .i64 n1), (.int .i64 n2), (.int .i64 n3), n4, (.str n5), (.int .i64 n6), (.bool n7), (.bool n8), (.str n9), (.str n10)] left σ (mkGateField b0 b1 b2 b3 b4 b5 b6 b9 b10) h0 h1
  exact h
def c_laws_eqGateField : C := (.seq (.ops [⟨(some 2), none, (.box (.t 0))⟩, ⟨(some 3), none, (.box (.t 1))⟩, ⟨(some 4), none, (.mv (.c (.t (.bool false))))⟩]) (.seq (.seq (.ops [⟨(some 5), none, (.fieldAddr 0 (.t 2))⟩, ⟨(some 6), none, (.load none (.t 5))⟩, ⟨(some 7), none, (.fieldAddr 0 (.t 3))⟩, ⟨(some 8), none, (.load none (.t 7))⟩, ⟨(some 9), none, (.bin .neq (.t 6) (.t 8))⟩]) (.cond (.t 9) (.seq (.ops [⟨(some 4), none, (.mv (.c (.t (.bool false))))⟩]) .ret) .skip)) (.seq (.seq (.ops [⟨(some 10), none, (.fieldAddr 1 (.t 2))⟩, ⟨(some 11), none, (.load none (.t 10))⟩, ⟨(some 12), none, (.fieldAddr 1 (.t 3))⟩, ⟨(some 13), none, (.load none (.t 12))⟩, ⟨(some 14), none, (.bin .neq (.t 11) (.t 13))⟩]) (.cond (.t 14) (.seq (.ops [⟨(some 4), none, (.mv (.c (.t (.bool false))))⟩]) .ret) .skip)) (.seq (.seq (.ops [⟨(some 15), none, (.fieldAddr 2 (.t 2))⟩, ⟨(some 16), none, (.load none (.t 15))⟩, ⟨(some 17), none, (.fieldAddr 2 (.t 3))⟩, ⟨(some 18), none, (.load none (.t 17))⟩, ⟨(some 19), none, (.bin .neq (.t 16) (.t 18))⟩]) (.cond (.t 19) (.seq (.ops [⟨(some 4), none, (.mv (.c (.t (.bool false))))⟩]) .ret) .skip)) (.seq (.seq (.ops [⟨(some 20), none, (.fieldAddr 3 (.t 2))⟩, ⟨(some 21), none, (.load none (.t 20))⟩, ⟨(some 22), none, (.fieldAddr 3 (.t 3))⟩, ⟨(some 23), none, (.load none (.t 22))⟩, ⟨(some 24), none, (.bin .neq (.t 21) (.t 23))⟩]) (.cond (.t 24) (.seq (.ops [⟨(some 4), none, (.mv (.c (.t (.bool false))))⟩]) .ret) .skip)) (.seq (.seq (.ops [⟨(some 25), none, (.fieldAddr 4 (.t 2))⟩, ⟨(some 26), none, (.load none (.t 25))⟩, ⟨(some 27), none, (.fieldAddr 4 (.t 3))⟩, ⟨(some 28), none, (.load none (.t 27))⟩, ⟨(some 29), none, (.call (.c (.fn (.func 91) [])) [(.t 26), (.t 28)])⟩, ⟨(some 30), none, (.un .not (.t 29))⟩]) (.cond (.t 30) (.seq (.ops [⟨(some 4), none, (.mv (.c (.t (.bool false))))⟩]) .ret) .skip)) (.seq (.seq (.ops [⟨(some 31), none, (.fieldAddr 5 (.t 2))⟩, ⟨(some 32), none, (.load none (.t 31))⟩, ⟨(some 33), none, (.fieldAddr 5 (.t 3))⟩, ⟨(some 34), none, (.load none (.t 33))⟩, ⟨(some 35), none, (.bin .neq (.t 32) (.t 34))⟩]) (.cond (.t 35) (.seq (.ops [⟨(some 4), none, (.mv (.c (.t (.bool false))))⟩]) .ret) .skip)) (.seq (.seq (.ops [⟨(some 36), none, (.fieldAddr 6 (.t 2))⟩, ⟨(some 37), none, (.load none (.t 36))⟩, ⟨(some 38), none, (.fieldAddr 6 (.t 3))⟩, ⟨(some 39), none, (.load none (.t 38))⟩, ⟨(some 40), none, (.bin .neq (.t 37) (.t 39))⟩]) (.cond (.t 40) (.seq (.ops [⟨(some 4), none, (.mv (.c (.t (.bool false))))⟩]) .ret) .skip)) (.seq (.seq (.ops [⟨(some 41), none, (.fieldAddr 7 (.t 2))⟩, ⟨(some 42), none, (.load none (.t 41))⟩, ⟨(some 43), none, (.fieldAddr 7 (.t 3))⟩, ⟨(some 44), none, (.load none (.t 43))⟩, ⟨(some 45), none, (.eqB true (.t 42) (.t 44))⟩]) (.cond (.t 45) (.seq (.ops [⟨(some 4), none, (.mv (.c (.t (.bool false))))⟩]) .ret) .skip)) (.seq (.seq (.ops [⟨(some 46), none, (.fieldAddr 8 (.t 2))⟩, ⟨(some 47), none, (.load none (.t 46))⟩, ⟨(some 48), none, (.fieldAddr 8 (.t 3))⟩, ⟨(some 49), none, (.load none (.t 48))⟩, ⟨(some 50), none, (.eqB true (.t 47) (.t 49))⟩]) (.cond (.t 50) (.seq (.ops [⟨(some 4), none, (.mv (.c (.t (.bool false))))⟩]) .ret) .skip)) (.seq (.seq (.ops [⟨(some 51), none, (.fieldAddr 9 (.t 2))⟩, ⟨(some 52), none, (.load none (.t 51))⟩, ⟨(some 53), none, (.fieldAddr 9 (.t 3))⟩, ⟨(some 54), none, (.load none (.t 53))⟩, ⟨(some 55), none, (.bin .neq (.t 52) (.t 54))⟩]) (.cond (.t 55) (.seq (.ops [⟨(some 4), none, (.mv (.c (.t (.bool false))))⟩]) .ret) .skip)) (.seq (.seq (.ops [⟨(some 56), none, (.fieldAddr 10 (.t 2))⟩, ⟨(some 57), none, (.load none (.t 56))⟩, ⟨(some 58), none, (.fieldAddr 10 (.t 3))⟩, ⟨(some 59), none, (.load none (.t 58))⟩, ⟨(some 60), none, (.bin .neq (.t 57) (.t 59))⟩]) (.cond (.t 60) (.seq (.ops [⟨(some 4), none, (.mv (.c (.t (.bool false))))⟩]) .ret) .skip)) (.seq (.ops [⟨(some 4), none, (.mv (.c (.t (.bool true))))⟩]) .ret)))))))))))))
theorem k_laws_eqGateField : comp Try.prog 61 (Try.f32.body.getD .skip) = some c_laws_eqGateField := by kernel_rfl

theorem eqGateField : EqLOk Try.prog 32 shGateField := by
  rintro ts σ ht h1
  obtain ⟨n0, n1, n2, n3, n4, n5, n6, n7, n8, n9, n10, rfl, b0, b1, b2, b3, b4, b5, b6, b9, b10⟩ := isGateField ht
  rw [sizeGateField] at h1
  refine acalls_of Try.func32 (by decide +kernel) (code := Try.f32.body.getD .skip) (n := 61) (c := c_laws_eqGateField) (rs := [(.tmp 4)]) rfl rfl k_laws_eqGateField (by kernel_rfl) (by simp) (fun hσ => ?_)
  simp -implicitDefEqProofs only [c_laws_eqGateField, ne_self, beq_self_eq_true, S0, S1, S2, S3, S4, S5, S6, S7, S8, S9, S10, S11, S12, S13, S14, S15, S16, S17, opv, opvs, eget, env0, setD, lenStr, lenSl, isNilP, isNilS, putAt, if_true, if_false, reduceCtorEq, Nat.reduceLeDiff, Nat.reduceEqDiff, Nat.reduceSub, Nat.reduceMul, Nat.reduceAdd]
  refine call_pure (eqStringS n4 _ b4 (by omega)) ?_
  simp -implicitDefEqProofs only [ne_self, beq_self_eq_true, S0, S1, S2, S3, S4, S5, S6, S7, S8, S9, S10, S11, S12, S13, S14, S15, S16, S17, opv, opvs, eget, env0, setD, lenStr, lenSl, isNilP, isNilS, putAt, if_true, if_false, reduceCtorEq, Nat.reduceLeDiff, Nat.reduceEqDiff, Nat.reduceSub, Nat.reduceMul, Nat.reduceAdd]
  exact ret_same rfl hσ rfl ⟨rfl, rfl⟩
theorem eqGateField_x {n0} {n1} {n2} {n3} {n4} {n5} {n6} {n7} {n8} {n9} {n10} (σ : Store) (b0 : n0.length ≤ maxLen) (b1 : (Lit.int .i64 n1).wf = true) (b2 : (Lit.int .i64 n2).wf = true) (b3 : (Lit.int .i64 n3).wf = true) (b4 : T.is (.sl 1 [.str]) n4) (b5 : n5.length ≤ maxLen) (b6 : (Lit.int .i64 n6).wf = true) (b9 : n9.length ≤ maxLen) (b10 : n10.length ≤ maxLen) (hz : n0.length + n4.size + n5.length + n9.length + n10.length ≤ 1099511627776) : ACalls Try.prog 32 [.agg [.t (.str n0), .t (.int .i64 n1), .t (.int .i64 n2), .t (.int .i64 n3), .t n4, .t (.str n5), .t (.int .i64 n6), .t (.bool n7), .t (.bool n8), .t (.str n9), .t (.str n10)], .agg [.t (.str n0), .t (.int .i64 n1), .t (.int .i64 n2), .t (.int .i64 n3), .t n4, .t (.str n5), .t (.int .i64 n6), .t (.bool n7), .t (.bool n8), .t (.str n9), .t (.str n10)]] σ (TrueR σ) := by
  have h := eqGateField [(.str n0), (.int .i64 n1), (.int .i64 n2), (.int .i64 n3), n4, (.str n5), (.int .i64 n6), (.bool n7), (.bool n8), (.str n9), (.str n10)] σ (mkGateField b0 b1 b2 b3 b4 b5 b6 b9 b10) (by rw [sizeGateField]; omega)
  exact h
def c_laws_toGateField : C := (.seq (.ops [⟨(some 1), none, (.box (.t 0))⟩, ⟨(some 2), none, (.new [(.t (.str [])), (.t (.int .i64 0)), (.t (.int .i64 0)), (.t (.int .i64 0)), .nils, (.t (.str [])), (.t (.int .i64 0)), (.t (.bool false)), (.t (.bool false)), (.t (.str [])), (.t (.str []))])⟩]) (.seq (.ops [⟨(some 3), none, (.new [(.t (.str [])), (.t (.int .i64 0)), (.t (.int .i64 0)), (.t (.int .i64 0)), .nils, (.t (.str [])), (.t (.int .i64 0)), (.t (.bool false)), (.t (.bool false)), (.t (.str [])), (.t (.str []))])⟩]) (.seq (.ops [⟨(some 4), none, (.fieldAddr 0 (.t 1))⟩, ⟨(some 5), none, (.load none (.t 4))⟩, ⟨(some 6), none, (.fieldAddr 0 (.t 3))⟩, ⟨none, none, (.store 1 (.t 6) (.t 5))⟩]) (.seq (.ops [⟨(some 7), none, (.fieldAddr 1 (.t 1))⟩, ⟨(some 8), none, (.load none (.t 7))⟩, ⟨(some 9), none, (.fieldAddr 1 (.t 3))⟩, ⟨none, none, (.store 1 (.t 9) (.t 8))⟩]) (.seq (.ops [⟨(some 10), none, (.fieldAddr 2 (.t 1))⟩, ⟨(some 11), none, (.load none (.t 10))⟩, ⟨(some 12), none, (.fieldAddr 2 (.t 3))⟩, ⟨none, none, (.store 1 (.t 12) (.t 11))⟩]) (.seq (.ops [⟨(some 13), none, (.fieldAddr 3 (.t 1))⟩, ⟨(some 14), none, (.load none (.t 13))⟩, ⟨(some 15), none, (.fieldAddr 3 (.t 3))⟩, ⟨none, none, (.store 1 (.t 15) (.t 14))⟩]) (.seq (.ops [⟨(some 16), none, (.fieldAddr 4 (.t 1))⟩, ⟨(some 17), none, (.load none (.t 16))⟩, ⟨(some 18), none, (.call (.c (.fn (.func 89) [])) [(.t 17)])⟩, ⟨(some 19), none, (.fieldAddr 4 (.t 3))⟩, ⟨none, none, (.store 1 (.t 19) (.t 18))⟩]) (.seq (.ops [⟨(some 20), none, (.fieldAddr 5 (.t 1))⟩, ⟨(some 21), none, (.load none (.t 20))⟩, ⟨(some 22), none, (.fieldAddr 5 (.t 3))⟩, ⟨none, none, (.store 1 (.t 22) (.t 21))⟩]) (.seq (.ops [⟨(some 23), none, (.fieldAddr 6 (.t 1))⟩, ⟨(some 24), none, (.load none (.t 23))⟩, ⟨(some 25), none, (.fieldAddr 6 (.t 3))⟩, ⟨none, none, (.store 1 (.t 25) (.t 24))⟩]) (.seq (.ops [⟨(some 26), none, (.fieldAddr 7 (.t 1))⟩, ⟨(some 27), none, (.load none (.t 26))⟩, ⟨(some 28), none, (.fieldAddr 7 (.t 3))⟩, ⟨none, none, (.store 1 (.t 28) (.t 27))⟩]) (.seq (.ops [⟨(some 29), none, (.fieldAddr 8 (.t 1))⟩, ⟨(some 30), none, (.load none (.t 29))⟩, ⟨(some 31), none, (.fieldAddr 8 (.t 3))⟩, ⟨none, none, (.store 1 (.t 31) (.t 30))⟩]) (.seq (.ops [⟨(some 32), none, (.fieldAddr 9 (.t 1))⟩, ⟨(some 33), none, (.load none (.t 32))⟩, ⟨(some 34), none, (.fieldAddr 9 (.t 3))⟩, ⟨none, none, (.store 1 (.t 34) (.t 33))⟩]) (.seq (.ops [⟨(some 35), none, (.fieldAddr 10 (.t 1))⟩, ⟨(some 36), none, (.load none (.t 35))⟩, ⟨(some 37), none, (.fieldAddr 10 (.t 3))⟩, ⟨none, none, (.store 1 (.t 37) (.t 36))⟩]) (.seq (.ops [⟨(some 38), none, (.load (some 11) (.t 3))⟩, ⟨none, none, (.store 11 (.t 2) (.t 38))⟩]) .ret))))))))))))))
theorem k_laws_toGateField : comp Try.prog 39 (Try.f30.body.getD .skip) = some c_laws_toGateField := by kernel_rfl

theorem toGateField : ToLOk Try.prog 30 shGateField := by
  rintro ts σ ht h1
  obtain ⟨n0, n1, n2, n3, n4, n5, n6, n7, n8, n9, n10, rfl, b0, b1, b2, b3, b4, b5, b6, b9, b10⟩ := isGateField ht
  rw [sizeGateField] at h1
  refine acalls_of Try.func30 (by decide +kernel) (code := Try.f30.body.getD .skip) (n := 39) (c := c_laws_toGateField) (rs := [(.cell 2 (some 11))]) rfl rfl k_laws_toGateField (by kernel_rfl) (by simp) (fun hσ => ?_)
  simp -implicitDefEqProofs only [c_laws_toGateField, S0, S1, S2, S3, S4, S5, S6, S7, S8, S9, S10, S11, S12, S13, S14, S15, S16, S17, opv, opvs, eget, env0, setD, lenStr, lenSl, isNilP, isNilS, putAt, if_true, if_false, reduceCtorEq, Nat.reduceLeDiff, Nat.reduceEqDiff, Nat.reduceSub, Nat.reduceMul, Nat.reduceAdd]
  refine call_by (by rw [List.append_nil]; exact toStringS n4 _ b4 (by omega)) ?_
  rintro u4 σ' ⟨τ4, j4, rfl, o4, w4⟩
  have e4 := o4.one
  simp -implicitDefEqProofs only [one_cells e4, e4, S0, S1, S2, S3, S4, S5, S6, S7, S8, S9, S10, S11, S12, S13, S14, S15, S16, S17, opv, opvs, eget, env0, setD, lenStr, lenSl, isNilP, isNilS, putAt, if_true, if_false, reduceCtorEq, Nat.reduceLeDiff, Nat.reduceEqDiff, Nat.reduceSub, Nat.reduceMul, Nat.reduceAdd]
  refine fin_keep (by simp) ⟨_, _, (j4 ++ []), rfl, rfl, (OwnL.str (OwnL.int (OwnL.int (OwnL.int (OwnL.lst (own_pre (A := [_, _, _]) (A' := [_, _, _]) (B := τ4) (B' := τ4) o4 w4 (List.append_assoc ..) rfl rfl (by simp) (by simp)) (OwnL.str (OwnL.int (OwnL.bool (OwnL.bool (OwnL.str (OwnL.str OwnL.nil0))))))))))), ?_⟩
  simp only [List.length_append, List.length_cons, List.length_nil] at w4 ⊢
  refine Wi.mono (a := σ.length) ?_ (Nat.le_refl _) (Nat.le_refl _)
  exact wi_last w4 (by omega) (by omega)
theorem toGateField_x {n0} {n1} {n2} {n3} {n4} {n5} {n6} {n7} {n8} {n9} {n10} (σ : Store) (b0 : n0.length ≤ maxLen) (b1 : (Lit.int .i64 n1).wf = true) (b2 : (Lit.int .i64 n2).wf = true) (b3 : (Lit.int .i64 n3).wf = true) (b4 : T.is (.sl 1 [.str]) n4) (b5 : n5.length ≤ maxLen) (b6 : (Lit.int .i64 n6).wf = true) (b9 : n9.length ≤ maxLen) (b10 : n10.length ≤ maxLen) (hz : n0.length + n4.size + n5.length + n9.length + n10.length ≤ 1048576) : ACalls Try.prog 30 [.agg [.t (.str n0), .t (.int .i64 n1), .t (.int .i64 n2), .t (.int .i64 n3), .t n4, .t (.str n5), .t (.int .i64 n6), .t (.bool n7), .t (.bool n8), .t (.str n9), .t (.str n10)]] σ (ToLR [(.str n0), (.int .i64 n1), (.int .i64 n2), (.int .i64 n3), n4, (.str n5), (.int .i64 n6), (.bool n7), (.bool n8), (.str n9), (.str n10)] σ) := by
  have h := toGateField [(.str n0), (.int .i64 n1), (.int .i64 n2), (.int .i64 n3), n4, (.str n5), (.int .i64 n6), (.bool n7), (.bool n8), (.str n9), (.str n10)] σ (mkGateField b0 b1 b2 b3 b4 b5 b6 b9 b10) (by rw [sizeGateField]; omega)
  exact h
theorem i_szGateFieldS : Is Try.prog 149 27 [(.tmp 4)] (tSzS 11 28) := ⟨_, _, Try.func149, by decide +kernel, rfl, rfl, by kernel_rfl, rfl⟩
theorem szGateFieldS : SzOk Try.prog 149 (.sl 11 shGateField) := szS_ok rfl i_szGateFieldS szGateField
theorem i_eqGateFieldS : Is Try.prog 153 27 [(.tmp 4)] (tEqS 11 32) := ⟨_, _, Try.func153, by decide +kernel, rfl, rfl, by kernel_rfl, rfl⟩
theorem eqGateFieldS : EqOk Try.prog 153 (.sl 11 shGateField) := eqS_ok rfl i_eqGateFieldS eqGateField
theorem i_toGateFieldS : Is Try.prog 152 23 [(.tmp 2)] (tToS 11 128 30 [.t (.str []), .t (.int .i64 0), .t (.int .i64 0), .t (.int .i64 0), .nils, .t (.str []), .t (.int .i64 0), .t (.bool false), .t (.bool false), .t (.str []), .t (.str [])]) := ⟨_, _, Try.func152, by decide +kernel, rfl, rfl, by kernel_rfl, rfl⟩
theorem toGateFieldS : ToOk Try.prog 152 (.sl 11 shGateField) := toS_ok 128 [.t (.str []), .t (.int .i64 0), .t (.int .i64 0), .t (.int .i64 0), .nils, .t (.str []), .t (.int .i64 0), .t (.bool false), .t (.bool false), .t (.str []), .t (.str [])] rfl (by decide) rfl (by decide) i_toGateFieldS toGateField
def shGateShape : List Sh := [.str, .sl 11 shGateField]
theorem isGateShape {ts : List T} (ht : T.isL shGateShape ts) : ∃ n0 n1, ts = [(.str n0), n1] ∧ n0.length ≤ maxLen ∧ T.is (.sl 11 shGateField) n1 := by
  simp only [shGateShape, isL_cons, isL_nil, is_int, is_bool, is_str] at ht
  obtain ⟨_, _, rfl, ⟨n0, rfl, b0⟩, n1, _, rfl, b1, rfl⟩ := ht
  exact ⟨_, _, rfl, b0, b1⟩
theorem mkGateShape {n0} {n1} (b0 : n0.length ≤ maxLen) (b1 : T.is (.sl 11 shGateField) n1) : T.isL shGateShape [(.str n0), n1] := by
  simp only [shGateShape, isL_cons, isL_nil, is_int, is_bool, is_str]
  exact ⟨_, _, rfl, ⟨_, rfl, b0⟩, _, _, rfl, b1, rfl⟩
theorem sizeGateShape {n0} {n1} : T.sizeL [(.str n0), n1] = n0.length + n1.size := by
  simp only [sizeL_cons, sizeL_nil, size_int, size_bool, size_str]
  try omega
def c_laws_szGateShape : C := (.seq (.ops [⟨(some 2), none, (.box (.t 0))⟩, ⟨(some 4), none, (.mv (.c (.t (.int .i64 0))))⟩]) (.seq (.ops [⟨(some 5), none, (.mv (.t 1))⟩, ⟨(some 6), none, (.fieldAddr 0 (.t 2))⟩, ⟨(some 7), none, (.load none (.t 6))⟩, ⟨(some 8), none, (.len true (.t 7))⟩, ⟨(some 9), none, (.bin .sub (.t 5) (.t 8))⟩, ⟨(some 1), none, (.mv (.t 9))⟩]) (.seq (.seq (.ops [⟨(some 10), none, (.mv (.t 1))⟩, ⟨(some 11), none, (.bin .lss (.t 10) (.c (.t (.int .i64 0))))⟩]) (.cond (.t 11) (.seq (.ops [⟨(some 4), none, (.mv (.c (.t (.int .i64 (-1)))))⟩]) .ret) .skip)) (.seq (.ops [⟨(some 12), none, (.fieldAddr 1 (.t 2))⟩, ⟨(some 13), none, (.load none (.t 12))⟩, ⟨(some 14), none, (.mv (.t 1))⟩, ⟨(some 15), none, (.call (.c (.fn (.func 149) [])) [(.t 13), (.t 14)])⟩, ⟨(some 1), none, (.mv (.t 15))⟩]) (.seq (.seq (.ops [⟨(some 16), none, (.mv (.t 1))⟩, ⟨(some 17), none, (.bin .lss (.t 16) (.c (.t (.int .i64 0))))⟩]) (.cond (.t 17) (.seq (.ops [⟨(some 4), none, (.mv (.c (.t (.int .i64 (-1)))))⟩]) .ret) .skip)) (.seq (.ops [⟨(some 18), none, (.mv (.t 1))⟩, ⟨(some 4), none, (.mv (.t 18))⟩]) .ret))))))
theorem k_laws_szGateShape : comp Try.prog 19 (Try.f106.body.getD .skip) = some c_laws_szGateShape := by kernel_rfl

theorem szGateShape : SzLOk Try.prog 106 shGateShape := by
  rintro ts left σ ht h0 h1
  obtain ⟨n0, n1, rfl, b0, b1⟩ := isGateShape ht
  refine acalls_of Try.func106 (by decide +kernel) (code := Try.f106.body.getD .skip) (n := 19) (c := c_laws_szGateShape) (rs := [(.tmp 4)]) rfl rfl k_laws_szGateShape (by kernel_rfl) (by simp) (fun hσ => ?_)
  try simp only [maxLen] at *
  have fin : ∀ {n : Int} {τ : Store}, n ≤ left → (0 ≤ n → ((n0.length + n1.size : Nat) : Int) + n ≤ left) → retV σ.length (SzR (T.sizeL [(.str n0), n1]) left σ) (σ ++ τ) (some [.t (.int .i64 n)]) := fun h h' => ret_same rfl hσ rfl ⟨⟨_, rfl, h, fun h0 => by have := h' h0; rw [sizeGateShape]; exact this⟩, rfl⟩
  have w0 : IntKind.i64.wrap (left - n0.length) = left - n0.length := IntWalk.i64_in _ (by omega)
  simp -implicitDefEqProofs only [c_laws_szGateShape, w0, S0, S1, S2, S3, S4, S5, S6, S7, S8, S9, S10, S11, S12, S13, S14, S15, S16, S17, opv, opvs, eget, env0, setD, lenStr, lenSl, isNilP, isNilS, putAt, if_true, if_false, reduceCtorEq, Nat.reduceLeDiff, Nat.reduceEqDiff, Nat.reduceSub, Nat.reduceMul, Nat.reduceAdd]
  refine cond_split (fun h => ?_) (fun h => ?_)
  · simp -implicitDefEqProofs only [S0, S1, S2, S3, S4, S5, S6, S7, S8, S9, S10, S11, S12, S13, S14, S15, S16, S17, opv, opvs, eget, env0, setD, lenStr, lenSl, isNilP, isNilS, putAt, if_true, if_false, reduceCtorEq, Nat.reduceLeDiff, Nat.reduceEqDiff, Nat.reduceSub, Nat.reduceMul, Nat.reduceAdd]
    simp only [decide_eq_true_eq] at h
    exact fin (by omega) (by omega)
  simp only [decide_eq_false_iff_not, Int.not_lt] at h
  simp -implicitDefEqProofs only [S0, S1, S2, S3, S4, S5, S6, S7, S8, S9, S10, S11, S12, S13, S14, S15, S16, S17, opv, opvs, eget, env0, setD, lenStr, lenSl, isNilP, isNilS, putAt, if_true, if_false, reduceCtorEq, Nat.reduceLeDiff, Nat.reduceEqDiff, Nat.reduceSub, Nat.reduceMul, Nat.reduceAdd]
  refine call_by (by rw [List.append_nil]; exact szGateFieldS n1 (left - n0.length) _ b1 (by omega) (by omega)) ?_
  rintro r σ' ⟨⟨m1, rfl, hm1, hs1⟩, rfl⟩
  try simp only [sizeGateShape] at hs1
  simp -implicitDefEqProofs only [S0, S1, S2, S3, S4, S5, S6, S7, S8, S9, S10, S11, S12, S13, S14, S15, S16, S17, opv, opvs, eget, env0, setD, lenStr, lenSl, isNilP, isNilS, putAt, if_true, if_false, reduceCtorEq, Nat.reduceLeDiff, Nat.reduceEqDiff, Nat.reduceSub, Nat.reduceMul, Nat.reduceAdd]
  refine cond_split (fun h => ?_) (fun h => ?_)
  · simp -implicitDefEqProofs only [S0, S1, S2, S3, S4, S5, S6, S7, S8, S9, S10, S11, S12, S13, S14, S15, S16, S17, opv, opvs, eget, env0, setD, lenStr, lenSl, isNilP, isNilS, putAt, if_true, if_false, reduceCtorEq, Nat.reduceLeDiff, Nat.reduceEqDiff, Nat.reduceSub, Nat.reduceMul, Nat.reduceAdd]
    simp only [decide_eq_true_eq] at h
    exact fin (by omega) (by omega)
  simp only [decide_eq_false_iff_not, Int.not_lt] at h
  replace hs1 := hs1 h
  simp -implicitDefEqProofs only [S0, S1, S2, S3, S4, S5, S6, S7, S8, S9, S10, S11, S12, S13, S14, S15, S16, S17, opv, opvs, eget, env0, setD, lenStr, lenSl, isNilP, isNilS, putAt, if_true, if_false, reduceCtorEq, Nat.reduceLeDiff, Nat.reduceEqDiff, Nat.reduceSub, Nat.reduceMul, Nat.reduceAdd]
  exact fin (by omega) (fun _ => by omega)
theorem szGateShape_x {n0} {n1} (left : Int) (σ : Store) (b0 : n0.length ≤ maxLen) (b1 : T.is (.sl 11 shGateField) n1) (h0 : 0 ≤ left) (h1 : left ≤ 1048576) : ACalls Try.prog 106 [.agg [.t (.str n0), .t n1], .t (.int .i64 left)] σ (SzR (T.sizeL [(.str n0), n1]) left σ) := by
  have h := szGateShape [(.str n0), n1] left σ (mkGateShape b0 b1) h0 h1
  exact h
def c_laws_eqGateShape : C := (.seq (.ops [⟨(some 2), none, (.box (.t 0))⟩, ⟨(some 3), none, (.box (.t 1))⟩, ⟨(some 4), none, (.mv (.c (.t (.bool false))))⟩]) (.seq (.seq (.ops [⟨(some 5), none, (.fieldAddr 0 (.t 2))⟩, ⟨(some 6), none, (.load none (.t 5))⟩, ⟨(some 7), none, (.fieldAddr 0 (.t 3))⟩, ⟨(some 8), none, (.load none (.t 7))⟩, ⟨(some 9), none, (.bin .neq (.t 6) (.t 8))⟩]) (.cond (.t 9) (.seq (.ops [⟨(some 4), none, (.mv (.c (.t (.bool false))))⟩]) .ret) .skip)) (.seq (.seq (.ops [⟨(some 10), none, (.fieldAddr 1 (.t 2))⟩, ⟨(some 11), none, (.load none (.t 10))⟩, ⟨(some 12), none, (.fieldAddr 1 (.t 3))⟩, ⟨(some 13), none, (.load none (.t 12))⟩, ⟨(some 14), none, (.call (.c (.fn (.func 153) [])) [(.t 11), (.t 13)])⟩, ⟨(some 15), none, (.un .not (.t 14))⟩]) (.cond (.t 15) (.seq (.ops [⟨(some 4), none, (.mv (.c (.t (.bool false))))⟩]) .ret) .skip)) (.seq (.ops [⟨(some 4), none, (.mv (.c (.t (.bool true))))⟩]) .ret))))
theorem k_laws_eqGateShape : comp Try.prog 16 (Try.f111.body.getD .skip) = some c_laws_eqGateShape := by kernel_rfl

theorem eqGateShape : EqLOk Try.prog 111 shGateShape := by
  rintro ts σ ht h1
  obtain ⟨n0, n1, rfl, b0, b1⟩ := isGateShape ht
  rw [sizeGateShape] at h1
  refine acalls_of Try.func111 (by decide +kernel) (code := Try.f111.body.getD .skip) (n := 16) (c := c_laws_eqGateShape) (rs := [(.tmp 4)]) rfl rfl k_laws_eqGateShape (by kernel_rfl) (by simp) (fun hσ => ?_)
  simp -implicitDefEqProofs only [c_laws_eqGateShape, ne_self, beq_self_eq_true, S0, S1, S2, S3, S4, S5, S6, S7, S8, S9, S10, S11, S12, S13, S14, S15, S16, S17, opv, opvs, eget, env0, setD, lenStr, lenSl, isNilP, isNilS, putAt, if_true, if_false, reduceCtorEq, Nat.reduceLeDiff, Nat.reduceEqDiff, Nat.reduceSub, Nat.reduceMul, Nat.reduceAdd]
  refine call_pure (eqGateFieldS n1 _ b1 (by omega)) ?_
  simp -implicitDefEqProofs only [ne_self, beq_self_eq_true, S0, S1, S2, S3, S4, S5, S6, S7, S8, S9, S10, S11, S12, S13, S14, S15, S16, S17, opv, opvs, eget, env0, setD, lenStr, lenSl, isNilP, isNilS, putAt, if_true, if_false, reduceCtorEq, Nat.reduceLeDiff, Nat.reduceEqDiff, Nat.reduceSub, Nat.reduceMul, Nat.reduceAdd]
  exact ret_same rfl hσ rfl ⟨rfl, rfl⟩
theorem eqGateShape_x {n0} {n1} (σ : Store) (b0 : n0.length ≤ maxLen) (b1 : T.is (.sl 11 shGateField) n1) (hz : n0.length + n1.size ≤ 1099511627776) : ACalls Try.prog 111 [.agg [.t (.str n0), .t n1], .agg [.t (.str n0), .t n1]] σ (TrueR σ) := by
  have h := eqGateShape [(.str n0), n1] σ (mkGateShape b0 b1) (by rw [sizeGateShape]; omega)
  exact h
def c_laws_toGateShape : C := (.seq (.ops [⟨(some 1), none, (.box (.t 0))⟩, ⟨(some 2), none, (.new [(.t (.str [])), .nils])⟩]) (.seq (.ops [⟨(some 3), none, (.new [(.t (.str [])), .nils])⟩]) (.seq (.ops [⟨(some 4), none, (.fieldAddr 0 (.t 1))⟩, ⟨(some 5), none, (.load none (.t 4))⟩, ⟨(some 6), none, (.fieldAddr 0 (.t 3))⟩, ⟨none, none, (.store 1 (.t 6) (.t 5))⟩]) (.seq (.ops [⟨(some 7), none, (.fieldAddr 1 (.t 1))⟩, ⟨(some 8), none, (.load none (.t 7))⟩, ⟨(some 9), none, (.call (.c (.fn (.func 152) [])) [(.t 8)])⟩, ⟨(some 10), none, (.fieldAddr 1 (.t 3))⟩, ⟨none, none, (.store 1 (.t 10) (.t 9))⟩]) (.seq (.ops [⟨(some 11), none, (.load (some 2) (.t 3))⟩, ⟨none, none, (.store 2 (.t 2) (.t 11))⟩]) .ret)))))
theorem k_laws_toGateShape : comp Try.prog 12 (Try.f108.body.getD .skip) = some c_laws_toGateShape := by kernel_rfl

theorem toGateShape : ToLOk Try.prog 108 shGateShape := by
  rintro ts σ ht h1
  obtain ⟨n0, n1, rfl, b0, b1⟩ := isGateShape ht
  rw [sizeGateShape] at h1
  refine acalls_of Try.func108 (by decide +kernel) (code := Try.f108.body.getD .skip) (n := 12) (c := c_laws_toGateShape) (rs := [(.cell 2 (some 2))]) rfl rfl k_laws_toGateShape (by kernel_rfl) (by simp) (fun hσ => ?_)
  simp -implicitDefEqProofs only [c_laws_toGateShape, S0, S1, S2, S3, S4, S5, S6, S7, S8, S9, S10, S11, S12, S13, S14, S15, S16, S17, opv, opvs, eget, env0, setD, lenStr, lenSl, isNilP, isNilS, putAt, if_true, if_false, reduceCtorEq, Nat.reduceLeDiff, Nat.reduceEqDiff, Nat.reduceSub, Nat.reduceMul, Nat.reduceAdd]
  refine call_by (by rw [List.append_nil]; exact toGateFieldS n1 _ b1 (by omega)) ?_
  rintro u1 σ' ⟨τ1, j1, rfl, o1, w1⟩
  have e1 := o1.one
  simp -implicitDefEqProofs only [one_cells e1, e1, S0, S1, S2, S3, S4, S5, S6, S7, S8, S9, S10, S11, S12, S13, S14, S15, S16, S17, opv, opvs, eget, env0, setD, lenStr, lenSl, isNilP, isNilS, putAt, if_true, if_false, reduceCtorEq, Nat.reduceLeDiff, Nat.reduceEqDiff, Nat.reduceSub, Nat.reduceMul, Nat.reduceAdd]
  refine fin_keep (by simp) ⟨_, _, (j1 ++ []), rfl, rfl, (OwnL.str (OwnL.lst (own_pre (A := [_, _, _]) (A' := [_, _, _]) (B := τ1) (B' := τ1) o1 w1 (List.append_assoc ..) rfl rfl (by simp) (by simp)) OwnL.nil0)), ?_⟩
  simp only [List.length_append, List.length_cons, List.length_nil] at w1 ⊢
  refine Wi.mono (a := σ.length) ?_ (Nat.le_refl _) (Nat.le_refl _)
  exact wi_last w1 (by omega) (by omega)
theorem toGateShape_x {n0} {n1} (σ : Store) (b0 : n0.length ≤ maxLen) (b1 : T.is (.sl 11 shGateField) n1) (hz : n0.length + n1.size ≤ 1048576) : ACalls Try.prog 108 [.agg [.t (.str n0), .t n1]] σ (ToLR [(.str n0), n1] σ) := by
  have h := toGateShape [(.str n0), n1] σ (mkGateShape b0 b1) (by rw [sizeGateShape]; omega)
  exact h
theorem i_szGateShapeS : Is Try.prog 50 27 [(.tmp 4)] (tSzS 2 106) := ⟨_, _, Try.func50, by decide +kernel, rfl, rfl, by kernel_rfl, rfl⟩
theorem szGateShapeS : SzOk Try.prog 50 (.sl 2 shGateShape) := szS_ok rfl i_szGateShapeS szGateShape
theorem i_eqGateShapeS : Is Try.prog 54 27 [(.tmp 4)] (tEqS 2 111) := ⟨_, _, Try.func54, by decide +kernel, rfl, rfl, by kernel_rfl, rfl⟩
theorem eqGateShapeS : EqOk Try.prog 54 (.sl 2 shGateShape) := eqS_ok rfl i_eqGateShapeS eqGateShape
theorem i_toGateShapeS : Is Try.prog 52 23 [(.tmp 2)] (tToS 2 40 108 [.t (.str []), .nils]) := ⟨_, _, Try.func52, by decide +kernel, rfl, rfl, by kernel_rfl, rfl⟩
theorem toGateShapeS : ToOk Try.prog 52 (.sl 2 shGateShape) := toS_ok 40 [.t (.str []), .nils] rfl (by decide) rfl (by decide) i_toGateShapeS toGateShape
end Go.Proofs.Ytgdmgoidfglobaa.W

end


section
open Go Go.Ab
set_option maxHeartbeats 4000000
set_option maxRecDepth 20000
namespace Go.Proofs.Ytgdmgoidfglobaa.W
theorem own_app4 {σ : Store} {a0 a1 a2 a3 : T} {u0 u1 u2 u3 : V} {ts : List T} {us : List V} {is js : List Nat} (h : OwnL σ [a0, a1, a2, a3] [u0, u1, u2, u3] is) (k : OwnL σ ts us js) : OwnL σ (a0 :: a1 :: a2 :: a3 :: ts) (u0 :: u1 :: u2 :: u3 :: us) (is ++ js) := OwnL.app h k
theorem list4x {l : List V} (h : l.length = 4) : ∃ u0 u1 u2 u3, l = [u0, u1, u2, u3] := by
  match l, h with
  | [u0, u1, u2, u3], _ => exact ⟨u0, u1, u2, u3, rfl⟩
def shGateMend : List Sh := [.str, .str, .str, .str, .str, .str]
theorem isGateMend {ts : List T} (ht : T.isL shGateMend ts) : ∃ n0 n1 n2 n3 n4 n5, ts = [(.str n0), (.str n1), (.str n2), (.str n3), (.str n4), (.str n5)] ∧ n0.length ≤ maxLen ∧ n1.length ≤ maxLen ∧ n2.length ≤ maxLen ∧ n3.length ≤ maxLen ∧ n4.length ≤ maxLen ∧ n5.length ≤ maxLen := by
  simp only [shGateMend, isL_cons, isL_nil, is_int, is_bool, is_str] at ht
  obtain ⟨_, _, rfl, ⟨n0, rfl, b0⟩, _, _, rfl, ⟨n1, rfl, b1⟩, _, _, rfl, ⟨n2, rfl, b2⟩, _, _, rfl, ⟨n3, rfl, b3⟩, _, _, rfl, ⟨n4, rfl, b4⟩, _, _, rfl, ⟨n5, rfl, b5⟩, rfl⟩ := ht
  exact ⟨_, _, _, _, _, _, rfl, b0, b1, b2, b3, b4, b5⟩
theorem mkGateMend {n0} {n1} {n2} {n3} {n4} {n5} (b0 : n0.length ≤ maxLen) (b1 : n1.length ≤ maxLen) (b2 : n2.length ≤ maxLen) (b3 : n3.length ≤ maxLen) (b4 : n4.length ≤ maxLen) (b5 : n5.length ≤ maxLen) : T.isL shGateMend [(.str n0), (.str n1), (.str n2), (.str n3), (.str n4), (.str n5)] := by
  simp only [shGateMend, isL_cons, isL_nil, is_int, is_bool, is_str]
  exact ⟨_, _, rfl, ⟨_, rfl, b0⟩, _, _, rfl, ⟨_, rfl, b1⟩, _, _, rfl, ⟨_, rfl, b2⟩, _, _, rfl, ⟨_, rfl, b3⟩, _, _, rfl, ⟨_, rfl, b4⟩, _, _, rfl, ⟨_, rfl, b5⟩, rfl⟩
theorem sizeGateMend {n0} {n1} {n2} {n3} {n4} {n5} : T.sizeL [(.str n0), (.str n1), (.str n2), (.str n3), (.str n4), (.str n5)] = n0.length + n1.length + n2.length + n3.length + n4.length + n5.length := by
  simp only [sizeL_cons, sizeL_nil, size_int, size_bool, size_str]
  try omega
def c_laws_szGateMend : C := (.seq (.ops [⟨(some 2), none, (.box (.t 0))⟩, ⟨(some 4), none, (.mv (.c (.t (.int .i64 0))))⟩]) (.seq (.ops [⟨(some 5), none, (.mv (.t 1))⟩, ⟨(some 6), none, (.fieldAddr 0 (.t 2))⟩, ⟨(some 7), none, (.load none (.t 6))⟩, ⟨(some 8), none, (.len true (.t 7))⟩, ⟨(some 9), none, (.bin .sub (.t 5) (.t 8))⟩, ⟨(some 1), none, (.mv (.t 9))⟩]) (.seq (.seq (.ops [⟨(some 10), none, (.mv (.t 1))⟩, ⟨(some 11), none, (.bin .lss (.t 10) (.c (.t (.int .i64 0))))⟩]) (.cond (.t 11) (.seq (.ops [⟨(some 4), none, (.mv (.c (.t (.int .i64 (-1)))))⟩]) .ret) .skip)) (.seq (.ops [⟨(some 12), none, (.mv (.t 1))⟩, ⟨(some 13), none, (.fieldAddr 1 (.t 2))⟩, ⟨(some 14), none, (.load none (.t 13))⟩, ⟨(some 15), none, (.len true (.t 14))⟩, ⟨(some 16), none, (.bin .sub (.t 12) (.t 15))⟩, ⟨(some 1), none, (.mv (.t 16))⟩]) (.seq (.seq (.ops [⟨(some 17), none, (.mv (.t 1))⟩, ⟨(some 18), none, (.bin .lss (.t 17) (.c (.t (.int .i64 0))))⟩]) (.cond (.t 18) (.seq (.ops [⟨(some 4), none, (.mv (.c (.t (.int .i64 (-1)))))⟩]) .ret) .skip)) (.seq (.ops [⟨(some 19), none, (.mv (.t 1))⟩, ⟨(some 20), none, (.fieldAddr 2 (.t 2))⟩, ⟨(some 21), none, (.load none (.t 20))⟩, ⟨(some 22), none, (.len true (.t 21))⟩, ⟨(some 23), none, (.bin .sub (.t 19) (.t 22))⟩, ⟨(some 1), none, (.mv (.t 23))⟩]) (.seq (.seq (.ops [⟨(some 24), none, (.mv (.t 1))⟩, ⟨(some 25), none, (.bin .lss (.t 24) (.c (.t (.int .i64 0))))⟩]) (.cond (.t 25) (.seq (.ops [⟨(some 4), none, (.mv (.c (.t (.int .i64 (-1)))))⟩]) .ret) .skip)) (.seq (.ops [⟨(some 26), none, (.mv (.t 1))⟩, ⟨(some 27), none, (.fieldAddr 3 (.t 2))⟩, ⟨(some 28), none, (.load none (.t 27))⟩, ⟨(some 29), none, (.len true (.t 28))⟩, ⟨(some 30), none, (.bin .sub (.t 26) (.t 29))⟩, ⟨(some 1), none, (.mv (.t 30))⟩]) (.seq (.seq (.ops [⟨(some 31), none, (.mv (.t 1))⟩, ⟨(some 32), none, (.bin .lss (.t 31) (.c (.t (.int .i64 0))))⟩]) (.cond (.t 32) (.seq (.ops [⟨(some 4), none, (.mv (.c (.t (.int .i64 (-1)))))⟩]) .ret) .skip)) (.seq (.ops [⟨(some 33), none, (.mv (.t 1))⟩, ⟨(some 34), none, (.fieldAddr 4 (.t 2))⟩, ⟨(some 35), none, (.load none (.t 34))⟩, ⟨(some 36), none, (.len true (.t 35))⟩, ⟨(some 37), none, (.bin .sub (.t 33) (.t 36))⟩, ⟨(some 1), none, (.mv (.t 37))⟩]) (.seq (.seq (.ops [⟨(some 38), none, (.mv (.t 1))⟩, ⟨(some 39), none, (.bin .lss (.t 38) (.c (.t (.int .i64 0))))⟩]) (.cond (.t 39) (.seq (.ops [⟨(some 4), none, (.mv (.c (.t (.int .i64 (-1)))))⟩]) .ret) .skip)) (.seq (.ops [⟨(some 40), none, (.mv (.t 1))⟩, ⟨(some 41), none, (.fieldAddr 5 (.t 2))⟩, ⟨(some 42), none, (.load none (.t 41))⟩, ⟨(some 43), none, (.len true (.t 42))⟩, ⟨(some 44), none, (.bin .sub (.t 40) (.t 43))⟩, ⟨(some 1), none, (.mv (.t 44))⟩]) (.seq (.seq (.ops [⟨(some 45), none, (.mv (.t 1))⟩, ⟨(some 46), none, (.bin .lss (.t 45) (.c (.t (.int .i64 0))))⟩]) (.cond (.t 46) (.seq (.ops [⟨(some 4), none, (.mv (.c (.t (.int .i64 (-1)))))⟩]) .ret) .skip)) (.seq (.ops [⟨(some 47), none, (.mv (.t 1))⟩, ⟨(some 4), none, (.mv (.t 47))⟩]) .ret))))))))))))))
theorem k_laws_szGateMend : comp Try.prog 48 (Try.f119.body.getD .skip) = some c_laws_szGateMend := by kernel_rfl

theorem szGateMend : SzLOk Try.prog 119 shGateMend := by
  rintro ts left σ ht h0 h1
  obtain ⟨n0, n1, n2, n3, n4, n5, rfl, b0, b1, b2, b3, b4, b5⟩ := isGateMend ht
  refine acalls_of Try.func119 (by decide +kernel) (code := Try.f119.body.getD .skip) (n := 48) (c := c_laws_szGateMend) (rs := [(.tmp 4)]) rfl rfl k_laws_szGateMend (by kernel_rfl) (by simp) (fun hσ => ?_)
  try simp only [maxLen] at *
  have fin : ∀ {n : Int} {τ : Store}, n ≤ left → (0 ≤ n → ((n0.length + n1.length + n2.length + n3.length + n4.length + n5.length : Nat) : Int) + n ≤ left) → retV σ.length (SzR (T.sizeL [(.str n0), (.str n1), (.str n2), (.str n3), (.str n4), (.str n5)]) left σ) (σ ++ τ) (some [.t (.int .i64 n)]) := fun h h' => ret_same rfl hσ rfl ⟨⟨_, rfl, h, fun h0 => by have := h' h0; rw [sizeGateMend]; exact this⟩, rfl⟩
  have w0 : IntKind.i64.wrap (left - n0.length) = left - n0.length := IntWalk.i64_in _ (by omega)
  simp -implicitDefEqProofs only [c_laws_szGateMend, w0, S0, S1, S2, S3, S4, S5, S6, S7, S8, S9, S10, S11, S12, S13, S14, S15, S16, S17, opv, opvs, eget, env0, setD, lenStr, lenSl, isNilP, isNilS, putAt, if_true, if_false, reduceCtorEq, Nat.reduceLeDiff, Nat.reduceEqDiff, Nat.reduceSub, Nat.reduceMul, Nat.reduceAdd]
  refine cond_split (fun h => ?_) (fun h => ?_)
  · simp -implicitDefEqProofs only [S0, S1, S2, S3, S4, S5, S6, S7, S8, S9, S10, S11, S12, S13, S14, S15, S16, S17, opv, opvs, eget, env0, setD, lenStr, lenSl, isNilP, isNilS, putAt, if_true, if_false, reduceCtorEq, Nat.reduceLeDiff, Nat.reduceEqDiff, Nat.reduceSub, Nat.reduceMul, Nat.reduceAdd]
    simp only [decide_eq_true_eq] at h
    exact fin (by omega) (by omega)
  simp only [decide_eq_false_iff_not, Int.not_lt] at h
  have w1 : IntKind.i64.wrap ((left - n0.length) - n1.length) = (left - n0.length) - n1.length := IntWalk.i64_in _ (by omega)
  simp -implicitDefEqProofs only [w1, S0, S1, S2, S3, S4, S5, S6, S7, S8, S9, S10, S11, S12, S13, S14, S15, S16, S17, opv, opvs, eget, env0, setD, lenStr, lenSl, isNilP, isNilS, putAt, if_true, if_false, reduceCtorEq, Nat.reduceLeDiff, Nat.reduceEqDiff, Nat.reduceSub, Nat.reduceMul, Nat.reduceAdd]
  refine cond_split (fun h => ?_) (fun h => ?_)
  · simp -implicitDefEqProofs only [S0, S1, S2, S3, S4, S5, S6, S7, S8, S9, S10, S11, S12, S13, S14, S15, S16, S17, opv, opvs, eget, env0, setD, lenStr, lenSl, isNilP, isNilS, putAt, if_true, if_false, reduceCtorEq, Nat.reduceLeDiff, Nat.reduceEqDiff, Nat.reduceSub, Nat.reduceMul, Nat.reduceAdd]
    simp only [decide_eq_true_eq] at h
    exact fin (by omega) (by omega)
  simp only [decide_eq_false_iff_not, Int.not_lt] at h
  have w2 : IntKind.i64.wrap (((left - n0.length) - n1.length) - n2.length) = ((left - n0.length) - n1.length) - n2.length := IntWalk.i64_in _ (by omega)
  simp -implicitDefEqProofs only [w2, S0, S1, S2, S3, S4, S5, S6, S7, S8, S9, S10, S11, S12, S13, S14, S15, S16, S17, opv, opvs, eget, env0, setD, lenStr, lenSl, isNilP, isNilS, putAt, if_true, if_false, reduceCtorEq, Nat.reduceLeDiff, Nat.reduceEqDiff, Nat.reduceSub, Nat.reduceMul, Nat.reduceAdd]
  refine cond_split (fun h => ?_) (fun h => ?_)
  · simp -implicitDefEqProofs only [S0, S1, S2, S3, S4, S5, S6, S7, S8, S9, S10, S11, S12, S13, S14, S15, S16, S17, opv, opvs, eget, env0, setD, lenStr, lenSl, isNilP, isNilS, putAt, if_true, if_false, reduceCtorEq, Nat.reduceLeDiff, Nat.reduceEqDiff, Nat.reduceSub, Nat.reduceMul, Nat.reduceAdd]
    simp only [decide_eq_true_eq] at h
    exact fin (by omega) (by omega)
  simp only [decide_eq_false_iff_not, Int.not_lt] at h
  have w3 : IntKind.i64.wrap ((((left - n0.length) - n1.length) - n2.length) - n3.length) = (((left - n0.length) - n1.length) - n2.length) - n3.length := IntWalk.i64_in _ (by omega)
  simp -implicitDefEqProofs only [w3, S0, S1, S2, S3, S4, S5, S6, S7, S8, S9, S10, S11, S12, S13, S14, S15, S16, S17, opv, opvs, eget, env0, setD, lenStr, lenSl, isNilP, isNilS, putAt, if_true, if_false, reduceCtorEq, Nat.reduceLeDiff, Nat.reduceEqDiff, Nat.reduceSub, Nat.reduceMul, Nat.reduceAdd]
  refine cond_split (fun h => ?_) (fun h => ?_)
  · simp -implicitDefEqProofs only [S0, S1, S2, S3, S4, S5, S6, S7, S8, S9, S10, S11, S12, S13, S14, S15, S16, S17, opv, opvs, eget, env0, setD, lenStr, lenSl, isNilP, isNilS, putAt, if_true, if_false, reduceCtorEq, Nat.reduceLeDiff, Nat.reduceEqDiff, Nat.reduceSub, Nat.reduceMul, Nat.reduceAdd]
    simp only [decide_eq_true_eq] at h
    exact fin (by omega) (by omega)
  simp only [decide_eq_false_iff_not, Int.not_lt] at h
  have w4 : IntKind.i64.wrap (((((left - n0.length) - n1.length) - n2.length) - n3.length) - n4.length) = ((((left - n0.length) - n1.length) - n2.length) - n3.length) - n4.length := IntWalk.i64_in _ (by omega)
  simp -implicitDefEqProofs only [w4, S0, S1, S2, S3, S4, S5, S6, S7, S8, S9, S10, S11, S12, S13, S14, S15, S16, S17, opv, opvs, eget, env0, setD, lenStr, lenSl, isNilP, isNilS, putAt, if_true, if_false, reduceCtorEq, Nat.reduceLeDiff, Nat.reduceEqDiff, Nat.reduceSub, Nat.reduceMul, Nat.reduceAdd]
  refine cond_split (fun h => ?_) (fun h => ?_)
  · simp -implicitDefEqProofs only [S0, S1, S2, S3, S4, S5, S6, S7, S8, S9, S10, S11, S12, S13, S14, S15, S16, S17, opv, opvs, eget, env0, setD, lenStr, lenSl, isNilP, isNilS, putAt, if_true, if_false, reduceCtorEq, Nat.reduceLeDiff, Nat.reduceEqDiff, Nat.reduceSub, Nat.reduceMul, Nat.reduceAdd]
    simp only [decide_eq_true_eq] at h
    exact fin (by omega) (by omega)
  simp only [decide_eq_false_iff_not, Int.not_lt] at h
  have w5 : IntKind.i64.wrap ((((((left - n0.length) - n1.length) - n2.length) - n3.length) - n4.length) - n5.length) = (((((left - n0.length) - n1.length) - n2.length) - n3.length) - n4.length) - n5.length := IntWalk.i64_in _ (by omega)
  simp -implicitDefEqProofs only [w5, S0, S1, S2, S3, S4, S5, S6, S7, S8, S9, S10, S11, S12, S13, S14, S15, S16, S17, opv, opvs, eget, env0, setD, lenStr, lenSl, isNilP, isNilS, putAt, if_true, if_false, reduceCtorEq, Nat.reduceLeDiff, Nat.reduceEqDiff, Nat.reduceSub, Nat.reduceMul, Nat.reduceAdd]
  refine cond_split (fun h => ?_) (fun h => ?_)
  · simp -implicitDefEqProofs only [S0, S1, S2, S3, S4, S5, S6, S7, S8, S9, S10, S11, S12, S13, S14, S15, S16, S17, opv, opvs, eget, env0, setD, lenStr, lenSl, isNilP, isNilS, putAt, if_true, if_false, reduceCtorEq, Nat.reduceLeDiff, Nat.reduceEqDiff, Nat.reduceSub, Nat.reduceMul, Nat.reduceAdd]
    simp only [decide_eq_true_eq] at h
    exact fin (by omega) (by omega)
  simp only [decide_eq_false_iff_not, Int.not_lt] at h
  simp -implicitDefEqProofs only [S0, S1, S2, S3, S4, S5, S6, S7, S8, S9, S10, S11, S12, S13, S14, S15, S16, S17, opv, opvs, eget, env0, setD, lenStr, lenSl, isNilP, isNilS, putAt, if_true, if_false, reduceCtorEq, Nat.reduceLeDiff, Nat.reduceEqDiff, Nat.reduceSub, Nat.reduceMul, Nat.reduceAdd]
  exact fin (by omega) (fun _ => by omega)
theorem szGateMend_x {n0} {n1} {n2} {n3} {n4} {n5} (left : Int) (σ : Store) (b0 : n0.length ≤ maxLen) (b1 : n1.length ≤ maxLen) (b2 : n2.length ≤ maxLen) (b3 : n3.length ≤ maxLen) (b4 : n4.length ≤ maxLen) (b5 : n5.length ≤ maxLen) (h0 : 0 ≤ left) (h1 : left ≤ 1048576) : ACalls Try.prog 119 [.agg [.t (.str n0), .t (.str n1), .t (.str n2), .t (.str n3), .t (.str n4), .t (.str n5)], .t (.int .i64 left)] σ (SzR (T.sizeL [(.str n0), (.str n1), (.str n2), (.str n3), (.str n4), (.str n5)]) left σ) := by
  have h := szGateMend [(.str n0), (.str n1), (.str n2), (.str n3), (.str n4), (.str n5)] left σ (mkGateMend b0 b1 b2 b3 b4 b5) h0 h1
  exact h
def c_laws_eqGateMend : C := (.seq (.ops [⟨(some 2), none, (.box (.t 0))⟩, ⟨(some 3), none, (.box (.t 1))⟩, ⟨(some 4), none, (.mv (.c (.t (.bool false))))⟩]) (.seq (.seq (.ops [⟨(some 5), none, (.fieldAddr 0 (.t 2))⟩, ⟨(some 6), none, (.load none (.t 5))⟩, ⟨(some 7), none, (.fieldAddr 0 (.t 3))⟩, ⟨(some 8), none, (.load none (.t 7))⟩, ⟨(some 9), none, (.bin .neq (.t 6) (.t 8))⟩]) (.cond (.t 9) (.seq (.ops [⟨(some 4), none, (.mv (.c (.t (.bool false))))⟩]) .ret) .skip)) (.seq (.seq (.ops [⟨(some 10), none, (.fieldAddr 1 (.t 2))⟩, ⟨(some 11), none, (.load none (.t 10))⟩, ⟨(some 12), none, (.fieldAddr 1 (.t 3))⟩, ⟨(some 13), none, (.load none (.t 12))⟩, ⟨(some 14), none, (.bin .neq (.t 11) (.t 13))⟩]) (.cond (.t 14) (.seq (.ops [⟨(some 4), none, (.mv (.c (.t (.bool false))))⟩]) .ret) .skip)) (.seq (.seq (.ops [⟨(some 15), none, (.fieldAddr 2 (.t 2))⟩, ⟨(some 16), none, (.load none (.t 15))⟩, ⟨(some 17), none, (.fieldAddr 2 (.t 3))⟩, ⟨(some 18), none, (.load none (.t 17))⟩, ⟨(some 19), none, (.bin .neq (.t 16) (.t 18))⟩]) (.cond (.t 19) (.seq (.ops [⟨(some 4), none, (.mv (.c (.t (.bool false))))⟩]) .ret) .skip)) (.seq (.seq (.ops [⟨(some 20), none, (.fieldAddr 3 (.t 2))⟩, ⟨(some 21), none, (.load none (.t 20))⟩, ⟨(some 22), none, (.fieldAddr 3 (.t 3))⟩, ⟨(some 23), none, (.load none (.t 22))⟩, ⟨(some 24), none, (.bin .neq (.t 21) (.t 23))⟩]) (.cond (.t 24) (.seq (.ops [⟨(some 4), none, (.mv (.c (.t (.bool false))))⟩]) .ret) .skip)) (.seq (.seq (.ops [⟨(some 25), none, (.fieldAddr 4 (.t 2))⟩, ⟨(some 26), none, (.load none (.t 25))⟩, ⟨(some 27), none, (.fieldAddr 4 (.t 3))⟩, ⟨(some 28), none, (.load none (.t 27))⟩, ⟨(some 29), none, (.bin .neq (.t 26) (.t 28))⟩]) (.cond (.t 29) (.seq (.ops [⟨(some 4), none, (.mv (.c (.t (.bool false))))⟩]) .ret) .skip)) (.seq (.seq (.ops [⟨(some 30), none, (.fieldAddr 5 (.t 2))⟩, ⟨(some 31), none, (.load none (.t 30))⟩, ⟨(some 32), none, (.fieldAddr 5 (.t 3))⟩, ⟨(some 33), none, (.load none (.t 32))⟩, ⟨(some 34), none, (.bin .neq (.t 31) (.t 33))⟩]) (.cond (.t 34) (.seq (.ops [⟨(some 4), none, (.mv (.c (.t (.bool false))))⟩]) .ret) .skip)) (.seq (.ops [⟨(some 4), none, (.mv (.c (.t (.bool true))))⟩]) .ret))))))))
theorem k_laws_eqGateMend : comp Try.prog 35 (Try.f126.body.getD .skip) = some c_laws_eqGateMend := by kernel_rfl

theorem eqGateMend : EqLOk Try.prog 126 shGateMend := by
  rintro ts σ ht h1
  obtain ⟨n0, n1, n2, n3, n4, n5, rfl, b0, b1, b2, b3, b4, b5⟩ := isGateMend ht
  rw [sizeGateMend] at h1
  refine acalls_of Try.func126 (by decide +kernel) (code := Try.f126.body.getD .skip) (n := 35) (c := c_laws_eqGateMend) (rs := [(.tmp 4)]) rfl rfl k_laws_eqGateMend (by kernel_rfl) (by simp) (fun hσ => ?_)
  simp -implicitDefEqProofs only [c_laws_eqGateMend, ne_self, beq_self_eq_true, S0, S1, S2, S3, S4, S5, S6, S7, S8, S9, S10, S11, S12, S13, S14, S15, S16, S17, opv, opvs, eget, env0, setD, lenStr, lenSl, isNilP, isNilS, putAt, if_true, if_false, reduceCtorEq, Nat.reduceLeDiff, Nat.reduceEqDiff, Nat.reduceSub, Nat.reduceMul, Nat.reduceAdd]
  exact ret_same rfl hσ rfl ⟨rfl, rfl⟩
theorem eqGateMend_x {n0} {n1} {n2} {n3} {n4} {n5} (σ : Store) (b0 : n0.length ≤ maxLen) (b1 : n1.length ≤ maxLen) (b2 : n2.length ≤ maxLen) (b3 : n3.length ≤ maxLen) (b4 : n4.length ≤ maxLen) (b5 : n5.length ≤ maxLen) (hz : n0.length + n1.length + n2.length + n3.length + n4.length + n5.length ≤ 1099511627776) : ACalls Try.prog 126 [.agg [.t (.str n0), .t (.str n1), .t (.str n2), .t (.str n3), .t (.str n4), .t (.str n5)], .agg [.t (.str n0), .t (.str n1), .t (.str n2), .t (.str n3), .t (.str n4), .t (.str n5)]] σ (TrueR σ) := by
  have h := eqGateMend [(.str n0), (.str n1), (.str n2), (.str n3), (.str n4), (.str n5)] σ (mkGateMend b0 b1 b2 b3 b4 b5) (by rw [sizeGateMend]; omega)
  exact h
def c_laws_toGateMend : C := (.seq (.ops [⟨(some 1), none, (.box (.t 0))⟩, ⟨(some 2), none, (.new [(.t (.str [])), (.t (.str [])), (.t (.str [])), (.t (.str [])), (.t (.str [])), (.t (.str []))])⟩]) (.seq (.ops [⟨(some 3), none, (.new [(.t (.str [])), (.t (.str [])), (.t (.str [])), (.t (.str [])), (.t (.str [])), (.t (.str []))])⟩]) (.seq (.ops [⟨(some 4), none, (.fieldAddr 0 (.t 1))⟩, ⟨(some 5), none, (.load none (.t 4))⟩, ⟨(some 6), none, (.fieldAddr 0 (.t 3))⟩, ⟨none, none, (.store 1 (.t 6) (.t 5))⟩]) (.seq (.ops [⟨(some 7), none, (.fieldAddr 1 (.t 1))⟩, ⟨(some 8), none, (.load none (.t 7))⟩, ⟨(some 9), none, (.fieldAddr 1 (.t 3))⟩, ⟨none, none, (.store 1 (.t 9) (.t 8))⟩]) (.seq (.ops [⟨(some 10), none, (.fieldAddr 2 (.t 1))⟩, ⟨(some 11), none, (.load none (.t 10))⟩, ⟨(some 12), none, (.fieldAddr 2 (.t 3))⟩, ⟨none, none, (.store 1 (.t 12) (.t 11))⟩]) (.seq (.ops [⟨(some 13), none, (.fieldAddr 3 (.t 1))⟩, ⟨(some 14), none, (.load none (.t 13))⟩, ⟨(some 15), none, (.fieldAddr 3 (.t 3))⟩, ⟨none, none, (.store 1 (.t 15) (.t 14))⟩]) (.seq (.ops [⟨(some 16), none, (.fieldAddr 4 (.t 1))⟩, ⟨(some 17), none, (.load none (.t 16))⟩, ⟨(some 18), none, (.fieldAddr 4 (.t 3))⟩, ⟨none, none, (.store 1 (.t 18) (.t 17))⟩]) (.seq (.ops [⟨(some 19), none, (.fieldAddr 5 (.t 1))⟩, ⟨(some 20), none, (.load none (.t 19))⟩, ⟨(some 21), none, (.fieldAddr 5 (.t 3))⟩, ⟨none, none, (.store 1 (.t 21) (.t 20))⟩]) (.seq (.ops [⟨(some 22), none, (.load (some 6) (.t 3))⟩, ⟨none, none, (.store 6 (.t 2) (.t 22))⟩]) .ret)))))))))
theorem k_laws_toGateMend : comp Try.prog 23 (Try.f122.body.getD .skip) = some c_laws_toGateMend := by kernel_rfl

theorem toGateMend : ToLOk Try.prog 122 shGateMend := by
  rintro ts σ ht h1
  obtain ⟨n0, n1, n2, n3, n4, n5, rfl, b0, b1, b2, b3, b4, b5⟩ := isGateMend ht
  rw [sizeGateMend] at h1
  refine acalls_of Try.func122 (by decide +kernel) (code := Try.f122.body.getD .skip) (n := 23) (c := c_laws_toGateMend) (rs := [(.cell 2 (some 6))]) rfl rfl k_laws_toGateMend (by kernel_rfl) (by simp) (fun hσ => ?_)
  simp -implicitDefEqProofs only [c_laws_toGateMend, S0, S1, S2, S3, S4, S5, S6, S7, S8, S9, S10, S11, S12, S13, S14, S15, S16, S17, opv, opvs, eget, env0, setD, lenStr, lenSl, isNilP, isNilS, putAt, if_true, if_false, reduceCtorEq, Nat.reduceLeDiff, Nat.reduceEqDiff, Nat.reduceSub, Nat.reduceMul, Nat.reduceAdd]
  exact fin_keep (by simp) ⟨_, _, [], rfl, rfl, (OwnL.str (OwnL.str (OwnL.str (OwnL.str (OwnL.str (OwnL.str OwnL.nil0)))))), Wi.nil⟩
theorem toGateMend_x {n0} {n1} {n2} {n3} {n4} {n5} (σ : Store) (b0 : n0.length ≤ maxLen) (b1 : n1.length ≤ maxLen) (b2 : n2.length ≤ maxLen) (b3 : n3.length ≤ maxLen) (b4 : n4.length ≤ maxLen) (b5 : n5.length ≤ maxLen) (hz : n0.length + n1.length + n2.length + n3.length + n4.length + n5.length ≤ 1048576) : ACalls Try.prog 122 [.agg [.t (.str n0), .t (.str n1), .t (.str n2), .t (.str n3), .t (.str n4), .t (.str n5)]] σ (ToLR [(.str n0), (.str n1), (.str n2), (.str n3), (.str n4), (.str n5)] σ) := by
  have h := toGateMend [(.str n0), (.str n1), (.str n2), (.str n3), (.str n4), (.str n5)] σ (mkGateMend b0 b1 b2 b3 b4 b5) (by rw [sizeGateMend]; omega)
  exact h
theorem i_szGateMendS : Is Try.prog 60 27 [(.tmp 4)] (tSzS 6 119) := ⟨_, _, Try.func60, by decide +kernel, rfl, rfl, by kernel_rfl, rfl⟩
theorem szGateMendS : SzOk Try.prog 60 (.sl 6 shGateMend) := szS_ok rfl i_szGateMendS szGateMend
theorem i_eqGateMendS : Is Try.prog 64 27 [(.tmp 4)] (tEqS 6 126) := ⟨_, _, Try.func64, by decide +kernel, rfl, rfl, by kernel_rfl, rfl⟩
theorem eqGateMendS : EqOk Try.prog 64 (.sl 6 shGateMend) := eqS_ok rfl i_eqGateMendS eqGateMend
theorem i_toGateMendS : Is Try.prog 62 23 [(.tmp 2)] (tToS 6 96 122 [.t (.str []), .t (.str []), .t (.str []), .t (.str []), .t (.str []), .t (.str [])]) := ⟨_, _, Try.func62, by decide +kernel, rfl, rfl, by kernel_rfl, rfl⟩
theorem toGateMendS : ToOk Try.prog 62 (.sl 6 shGateMend) := toS_ok 96 [.t (.str []), .t (.str []), .t (.str []), .t (.str []), .t (.str []), .t (.str [])] rfl (by decide) rfl (by decide) i_toGateMendS toGateMend
def shGateObject : List Sh := [.str, .str, .str, .sl 1 [.str], .bool, .sl 1 [.str], .int .i64]
theorem isGateObject {ts : List T} (ht : T.isL shGateObject ts) : ∃ n0 n1 n2 n3 n4 n5 n6, ts = [(.str n0), (.str n1), (.str n2), n3, (.bool n4), n5, (.int .i64 n6)] ∧ n0.length ≤ maxLen ∧ n1.length ≤ maxLen ∧ n2.length ≤ maxLen ∧ T.is (.sl 1 [.str]) n3 ∧ T.is (.sl 1 [.str]) n5 ∧ (Lit.int .i64 n6).wf = true := by
  simp only [shGateObject, isL_cons, isL_nil, is_int, is_bool, is_str] at ht
  obtain ⟨_, _, rfl, ⟨n0, rfl, b0⟩, _, _, rfl, ⟨n1, rfl, b1⟩, _, _, rfl, ⟨n2, rfl, b2⟩, n3, _, rfl, b3, _, _, rfl, ⟨n4, rfl⟩, n5, _, rfl, b5, _, _, rfl, ⟨n6, rfl, b6⟩, rfl⟩ := ht
  exact ⟨_, _, _, _, _, _, _, rfl, b0, b1, b2, b3, b5, b6⟩
theorem mkGateObject {n0} {n1} {n2} {n3} {n4} {n5} {n6} (b0 : n0.length ≤ maxLen) (b1 : n1.length ≤ maxLen) (b2 : n2.length ≤ maxLen) (b3 : T.is (.sl 1 [.str]) n3) (b5 : T.is (.sl 1 [.str]) n5) (b6 : (Lit.int .i64 n6).wf = true) : T.isL shGateObject [(.str n0), (.str n1), (.str n2), n3, (.bool n4), n5, (.int .i64 n6)] := by
  simp only [shGateObject, isL_cons, isL_nil, is_int, is_bool, is_str]
  exact ⟨_, _, rfl, ⟨_, rfl, b0⟩, _, _, rfl, ⟨_, rfl, b1⟩, _, _, rfl, ⟨_, rfl, b2⟩, _, _, rfl, b3, _, _, rfl, ⟨_, rfl⟩, _, _, rfl, b5, _, _, rfl, ⟨_, rfl, b6⟩, rfl⟩
theorem sizeGateObject {n0} {n1} {n2} {n3} {n4} {n5} {n6} : T.sizeL [(.str n0), (.str n1), (.str n2), n3, (.bool n4), n5, (.int .i64 n6)] = n0.length + n1.length + n2.length + n3.size + n5.size := by
  simp only [sizeL_cons, sizeL_nil, size_int, size_bool, size_str]
  try omega
def c_laws_szGateObject : C := (.seq (.ops [⟨(some 2), none, (.box (.t 0))⟩, ⟨(some 4), none, (.mv (.c (.t (.int .i64 0))))⟩]) (.seq (.ops [⟨(some 5), none, (.mv (.t 1))⟩, ⟨(some 6), none, (.fieldAddr 0 (.t 2))⟩, ⟨(some 7), none, (.load none (.t 6))⟩, ⟨(some 8), none, (.len true (.t 7))⟩, ⟨(some 9), none, (.bin .sub (.t 5) (.t 8))⟩, ⟨(some 1), none, (.mv (.t 9))⟩]) (.seq (.seq (.ops [⟨(some 10), none, (.mv (.t 1))⟩, ⟨(some 11), none, (.bin .lss (.t 10) (.c (.t (.int .i64 0))))⟩]) (.cond (.t 11) (.seq (.ops [⟨(some 4), none, (.mv (.c (.t (.int .i64 (-1)))))⟩]) .ret) .skip)) (.seq (.ops [⟨(some 12), none, (.mv (.t 1))⟩, ⟨(some 13), none, (.fieldAddr 1 (.t 2))⟩, ⟨(some 14), none, (.load none (.t 13))⟩, ⟨(some 15), none, (.len true (.t 14))⟩, ⟨(some 16), none, (.bin .sub (.t 12) (.t 15))⟩, ⟨(some 1), none, (.mv (.t 16))⟩]) (.seq (.seq (.ops [⟨(some 17), none, (.mv (.t 1))⟩, ⟨(some 18), none, (.bin .lss (.t 17) (.c (.t (.int .i64 0))))⟩]) (.cond (.t 18) (.seq (.ops [⟨(some 4), none, (.mv (.c (.t (.int .i64 (-1)))))⟩]) .ret) .skip)) (.seq (.ops [⟨(some 19), none, (.mv (.t 1))⟩, ⟨(some 20), none, (.fieldAddr 2 (.t 2))⟩, ⟨(some 21), none, (.load none (.t 20))⟩, ⟨(some 22), none, (.len true (.t 21))⟩, ⟨(some 23), none, (.bin .sub (.t 19) (.t 22))⟩, ⟨(some 1), none, (.mv (.t 23))⟩]) (.seq (.seq (.ops [⟨(some 24), none, (.mv (.t 1))⟩, ⟨(some 25), none, (.bin .lss (.t 24) (.c (.t (.int .i64 0))))⟩]) (.cond (.t 25) (.seq (.ops [⟨(some 4), none, (.mv (.c (.t (.int .i64 (-1)))))⟩]) .ret) .skip)) (.seq (.ops [⟨(some 26), none, (.fieldAddr 3 (.t 2))⟩, ⟨(some 27), none, (.load none (.t 26))⟩, ⟨(some 28), none, (.mv (.t 1))⟩, ⟨(some 29), none, (.call (.c (.fn (.func 85) [])) [(.t 27), (.t 28)])⟩, ⟨(some 1), none, (.mv (.t 29))⟩]) (.seq (.seq (.ops [⟨(some 30), none, (.mv (.t 1))⟩, ⟨(some 31), none, (.bin .lss (.t 30) (.c (.t (.int .i64 0))))⟩]) (.cond (.t 31) (.seq (.ops [⟨(some 4), none, (.mv (.c (.t (.int .i64 (-1)))))⟩]) .ret) .skip)) (.seq (.ops [⟨(some 32), none, (.fieldAddr 5 (.t 2))⟩, ⟨(some 33), none, (.load none (.t 32))⟩, ⟨(some 34), none, (.mv (.t 1))⟩, ⟨(some 35), none, (.call (.c (.fn (.func 85) [])) [(.t 33), (.t 34)])⟩, ⟨(some 1), none, (.mv (.t 35))⟩]) (.seq (.seq (.ops [⟨(some 36), none, (.mv (.t 1))⟩, ⟨(some 37), none, (.bin .lss (.t 36) (.c (.t (.int .i64 0))))⟩]) (.cond (.t 37) (.seq (.ops [⟨(some 4), none, (.mv (.c (.t (.int .i64 (-1)))))⟩]) .ret) .skip)) (.seq (.ops [⟨(some 38), none, (.mv (.t 1))⟩, ⟨(some 4), none, (.mv (.t 38))⟩]) .ret))))))))))))
theorem k_laws_szGateObject : comp Try.prog 39 (Try.f45.body.getD .skip) = some c_laws_szGateObject := by kernel_rfl

theorem szGateObject : SzLOk Try.prog 45 shGateObject := by
  rintro ts left σ ht h0 h1
  obtain ⟨n0, n1, n2, n3, n4, n5, n6, rfl, b0, b1, b2, b3, b5, b6⟩ := isGateObject ht
  refine acalls_of Try.func45 (by decide +kernel) (code := Try.f45.body.getD .skip) (n := 39) (c := c_laws_szGateObject) (rs := [(.tmp 4)]) rfl rfl k_laws_szGateObject (by kernel_rfl) (by simp) (fun hσ => ?_)
  try simp only [maxLen] at *
  have fin : ∀ {n : Int} {τ : Store}, n ≤ left → (0 ≤ n → ((n0.length + n1.length + n2.length + n3.size + n5.size : Nat) : Int) + n ≤ left) → retV σ.length (SzR (T.sizeL [(.str n0), (.str n1), (.str n2), n3, (.bool n4), n5, (.int .i64 n6)]) left σ) (σ ++ τ) (some [.t (.int .i64 n)]) := fun h h' => ret_same rfl hσ rfl ⟨⟨_, rfl, h, fun h0 => by have := h' h0; rw [sizeGateObject]; exact this⟩, rfl⟩
  have w0 : IntKind.i64.wrap (left - n0.length) = left - n0.length := IntWalk.i64_in _ (by omega)
  simp -implicitDefEqProofs only [c_laws_szGateObject, w0, S0, S1, S2, S3, S4, S5, S6, S7, S8, S9, S10, S11, S12, S13, S14, S15, S16, S17, opv, opvs, eget, env0, setD, lenStr, lenSl, isNilP, isNilS, putAt, if_true, if_false, reduceCtorEq, Nat.reduceLeDiff, Nat.reduceEqDiff, Nat.reduceSub, Nat.reduceMul, Nat.reduceAdd]
  refine cond_split (fun h => ?_) (fun h => ?_)
  · simp -implicitDefEqProofs only [S0, S1, S2, S3, S4, S5, S6, S7, S8, S9, S10, S11, S12, S13, S14, S15, S16, S17, opv, opvs, eget, env0, setD, lenStr, lenSl, isNilP, isNilS, putAt, if_true, if_false, reduceCtorEq, Nat.reduceLeDiff, Nat.reduceEqDiff, Nat.reduceSub, Nat.reduceMul, Nat.reduceAdd]
    simp only [decide_eq_true_eq] at h
    exact fin (by omega) (by omega)
  simp only [decide_eq_false_iff_not, Int.not_lt] at h
  have w1 : IntKind.i64.wrap ((left - n0.length) - n1.length) = (left - n0.length) - n1.length := IntWalk.i64_in _ (by omega)
  simp -implicitDefEqProofs only [w1, S0, S1, S2, S3, S4, S5, S6, S7, S8, S9, S10, S11, S12, S13, S14, S15, S16, S17, opv, opvs, eget, env0, setD, lenStr, lenSl, isNilP, isNilS, putAt, if_true, if_false, reduceCtorEq, Nat.reduceLeDiff, Nat.reduceEqDiff, Nat.reduceSub, Nat.reduceMul, Nat.reduceAdd]
  refine cond_split (fun h => ?_) (fun h => ?_)
  · simp -implicitDefEqProofs only [S0, S1, S2, S3, S4, S5, S6, S7, S8, S9, S10, S11, S12, S13, S14, S15, S16, S17, opv, opvs, eget, env0, setD, lenStr, lenSl, isNilP, isNilS, putAt, if_true, if_false, reduceCtorEq, Nat.reduceLeDiff, Nat.reduceEqDiff, Nat.reduceSub, Nat.reduceMul, Nat.reduceAdd]
    simp only [decide_eq_true_eq] at h
    exact fin (by omega) (by omega)
  simp only [decide_eq_false_iff_not, Int.not_lt] at h
  have w2 : IntKind.i64.wrap (((left - n0.length) - n1.length) - n2.length) = ((left - n0.length) - n1.length) - n2.length := IntWalk.i64_in _ (by omega)
  simp -implicitDefEqProofs only [w2, S0, S1, S2, S3, S4, S5, S6, S7, S8, S9, S10, S11, S12, S13, S14, S15, S16, S17, opv, opvs, eget, env0, setD, lenStr, lenSl, isNilP, isNilS, putAt, if_true, if_false, reduceCtorEq, Nat.reduceLeDiff, Nat.reduceEqDiff, Nat.reduceSub, Nat.reduceMul, Nat.reduceAdd]
  refine cond_split (fun h => ?_) (fun h => ?_)
  · simp -implicitDefEqProofs only [S0, S1, S2, S3, S4, S5, S6, S7, S8, S9, S10, S11, S12, S13, S14, S15, S16, S17, opv, opvs, eget, env0, setD, lenStr, lenSl, isNilP, isNilS, putAt, if_true, if_false, reduceCtorEq, Nat.reduceLeDiff, Nat.reduceEqDiff, Nat.reduceSub, Nat.reduceMul, Nat.reduceAdd]
    simp only [decide_eq_true_eq] at h
    exact fin (by omega) (by omega)
  simp only [decide_eq_false_iff_not, Int.not_lt] at h
  simp -implicitDefEqProofs only [S0, S1, S2, S3, S4, S5, S6, S7, S8, S9, S10, S11, S12, S13, S14, S15, S16, S17, opv, opvs, eget, env0, setD, lenStr, lenSl, isNilP, isNilS, putAt, if_true, if_false, reduceCtorEq, Nat.reduceLeDiff, Nat.reduceEqDiff, Nat.reduceSub, Nat.reduceMul, Nat.reduceAdd]
  refine call_by (by rw [List.append_nil]; exact szStringS n3 (((left - n0.length) - n1.length) - n2.length) _ b3 (by omega) (by omega)) ?_
  rintro r σ' ⟨⟨m3, rfl, hm3, hs3⟩, rfl⟩
  try simp only [sizeGateObject] at hs3
  simp -implicitDefEqProofs only [S0, S1, S2, S3, S4, S5, S6, S7, S8, S9, S10, S11, S12, S13, S14, S15, S16, S17, opv, opvs, eget, env0, setD, lenStr, lenSl, isNilP, isNilS, putAt, if_true, if_false, reduceCtorEq, Nat.reduceLeDiff, Nat.reduceEqDiff, Nat.reduceSub, Nat.reduceMul, Nat.reduceAdd]
  refine cond_split (fun h => ?_) (fun h => ?_)
  · simp -implicitDefEqProofs only [S0, S1, S2, S3, S4, S5, S6, S7, S8, S9, S10, S11, S12, S13, S14, S15, S16, S17, opv, opvs, eget, env0, setD, lenStr, lenSl, isNilP, isNilS, putAt, if_true, if_false, reduceCtorEq, Nat.reduceLeDiff, Nat.reduceEqDiff, Nat.reduceSub, Nat.reduceMul, Nat.reduceAdd]
    simp only [decide_eq_true_eq] at h
    exact fin (by omega) (by omega)
  simp only [decide_eq_false_iff_not, Int.not_lt] at h
  replace hs3 := hs3 h
  simp -implicitDefEqProofs only [S0, S1, S2, S3, S4, S5, S6, S7, S8, S9, S10, S11, S12, S13, S14, S15, S16, S17, opv, opvs, eget, env0, setD, lenStr, lenSl, isNilP, isNilS, putAt, if_true, if_false, reduceCtorEq, Nat.reduceLeDiff, Nat.reduceEqDiff, Nat.reduceSub, Nat.reduceMul, Nat.reduceAdd]
  refine call_by (by rw [List.append_nil]; exact szStringS n5 m3 _ b5 (by omega) (by omega)) ?_
  rintro r σ' ⟨⟨m5, rfl, hm5, hs5⟩, rfl⟩
  try simp only [sizeGateObject] at hs5
  simp -implicitDefEqProofs only [S0, S1, S2, S3, S4, S5, S6, S7, S8, S9, S10, S11, S12, S13, S14, S15, S16, S17, opv, opvs, eget, env0, setD, lenStr, lenSl, isNilP, isNilS, putAt, if_true, if_false, reduceCtorEq, Nat.reduceLeDiff, Nat.reduceEqDiff, Nat.reduceSub, Nat.reduceMul, Nat.reduceAdd]
  refine cond_split (fun h => ?_) (fun h => ?_)
  · simp -implicitDefEqProofs only [S0, S1, S2, S3, S4, S5, S6, S7, S8, S9, S10, S11, S12, S13, S14, S15, S16, S17, opv, opvs, eget, env0, setD, lenStr, lenSl, isNilP, isNilS, putAt, if_true, if_false, reduceCtorEq, Nat.reduceLeDiff, Nat.reduceEqDiff, Nat.reduceSub, Nat.reduceMul, Nat.reduceAdd]
    simp only [decide_eq_true_eq] at h
    exact fin (by omega) (by omega)
  simp only [decide_eq_false_iff_not, Int.not_lt] at h
  replace hs5 := hs5 h
  simp -implicitDefEqProofs only [S0, S1, S2, S3, S4, S5, S6, S7, S8, S9, S10, S11, S12, S13, S14, S15, S16, S17, opv, opvs, eget, env0, setD, lenStr, lenSl, isNilP, isNilS, putAt, if_true, if_false, reduceCtorEq, Nat.reduceLeDiff, Nat.reduceEqDiff, Nat.reduceSub, Nat.reduceMul, Nat.reduceAdd]
  exact fin (by omega) (fun _ => by omega)
theorem szGateObject_x {n0} {n1} {n2} {n3} {n4} {n5} {n6} (left : Int) (σ : Store) (b0 : n0.length ≤ maxLen) (b1 : n1.length ≤ maxLen) (b2 : n2.length ≤ maxLen) (b3 : T.is (.sl 1 [.str]) n3) (b5 : T.is (.sl 1 [.str]) n5) (b6 : (Lit.int .i64 n6).wf = true) (h0 : 0 ≤ left) (h1 : left ≤ 1048576) : ACalls Try.prog 45 [.agg [.t (.str n0), .t (.str n1), .t (.str n2), .t n3, .t (.bool n4), .t n5, .t (.int .i64 n6)], .t (.int .i64 left)] σ (SzR (T.sizeL [(.str n0), (.str n1), (.str n2), n3, (.bool n4), n5, (.int .i64 n6)]) left σ) := by
  have h := szGateObject [(.str n0), (.str n1), (.str n2), n3, (.bool n4), n5, (.int .i64 n6)] left σ (mkGateObject b0 b1 b2 b3 b5 b6) h0 h1
  exact h
def c_laws_eqGateObject : C := (.seq (.ops [⟨(some 2), none, (.box (.t 0))⟩, ⟨(some 3), none, (.box (.t 1))⟩, ⟨(some 4), none, (.mv (.c (.t (.bool false))))⟩]) (.seq (.seq (.ops [⟨(some 5), none, (.fieldAddr 0 (.t 2))⟩, ⟨(some 6), none, (.load none (.t 5))⟩, ⟨(some 7), none, (.fieldAddr 0 (.t 3))⟩, ⟨(some 8), none, (.load none (.t 7))⟩, ⟨(some 9), none, (.bin .neq (.t 6) (.t 8))⟩]) (.cond (.t 9) (.seq (.ops [⟨(some 4), none, (.mv (.c (.t (.bool false))))⟩]) .ret) .skip)) (.seq (.seq (.ops [⟨(some 10), none, (.fieldAddr 1 (.t 2))⟩, ⟨(some 11), none, (.load none (.t 10))⟩, ⟨(some 12), none, (.fieldAddr 1 (.t 3))⟩, ⟨(some 13), none, (.load none (.t 12))⟩, ⟨(some 14), none, (.bin .neq (.t 11) (.t 13))⟩]) (.cond (.t 14) (.seq (.ops [⟨(some 4), none, (.mv (.c (.t (.bool false))))⟩]) .ret) .skip)) (.seq (.seq (.ops [⟨(some 15), none, (.fieldAddr 2 (.t 2))⟩, ⟨(some 16), none, (.load none (.t 15))⟩, ⟨(some 17), none, (.fieldAddr 2 (.t 3))⟩, ⟨(some 18), none, (.load none (.t 17))⟩, ⟨(some 19), none, (.bin .neq (.t 16) (.t 18))⟩]) (.cond (.t 19) (.seq (.ops [⟨(some 4), none, (.mv (.c (.t (.bool false))))⟩]) .ret) .skip)) (.seq (.seq (.ops [⟨(some 20), none, (.fieldAddr 3 (.t 2))⟩, ⟨(some 21), none, (.load none (.t 20))⟩, ⟨(some 22), none, (.fieldAddr 3 (.t 3))⟩, ⟨(some 23), none, (.load none (.t 22))⟩, ⟨(some 24), none, (.call (.c (.fn (.func 91) [])) [(.t 21), (.t 23)])⟩, ⟨(some 25), none, (.un .not (.t 24))⟩]) (.cond (.t 25) (.seq (.ops [⟨(some 4), none, (.mv (.c (.t (.bool false))))⟩]) .ret) .skip)) (.seq (.seq (.ops [⟨(some 26), none, (.fieldAddr 4 (.t 2))⟩, ⟨(some 27), none, (.load none (.t 26))⟩, ⟨(some 28), none, (.fieldAddr 4 (.t 3))⟩, ⟨(some 29), none, (.load none (.t 28))⟩, ⟨(some 30), none, (.eqB true (.t 27) (.t 29))⟩]) (.cond (.t 30) (.seq (.ops [⟨(some 4), none, (.mv (.c (.t (.bool false))))⟩]) .ret) .skip)) (.seq (.seq (.ops [⟨(some 31), none, (.fieldAddr 5 (.t 2))⟩, ⟨(some 32), none, (.load none (.t 31))⟩, ⟨(some 33), none, (.fieldAddr 5 (.t 3))⟩, ⟨(some 34), none, (.load none (.t 33))⟩, ⟨(some 35), none, (.call (.c (.fn (.func 91) [])) [(.t 32), (.t 34)])⟩, ⟨(some 36), none, (.un .not (.t 35))⟩]) (.cond (.t 36) (.seq (.ops [⟨(some 4), none, (.mv (.c (.t (.bool false))))⟩]) .ret) .skip)) (.seq (.seq (.ops [⟨(some 37), none, (.fieldAddr 6 (.t 2))⟩, ⟨(some 38), none, (.load none (.t 37))⟩, ⟨(some 39), none, (.fieldAddr 6 (.t 3))⟩, ⟨(some 40), none, (.load none (.t 39))⟩, ⟨(some 41), none, (.bin .neq (.t 38) (.t 40))⟩]) (.cond (.t 41) (.seq (.ops [⟨(some 4), none, (.mv (.c (.t (.bool false))))⟩]) .ret) .skip)) (.seq (.ops [⟨(some 4), none, (.mv (.c (.t (.bool true))))⟩]) .ret)))))))))
theorem k_laws_eqGateObject : comp Try.prog 42 (Try.f49.body.getD .skip) = some c_laws_eqGateObject := by kernel_rfl

theorem eqGateObject : EqLOk Try.prog 49 shGateObject := by
  rintro ts σ ht h1
  obtain ⟨n0, n1, n2, n3, n4, n5, n6, rfl, b0, b1, b2, b3, b5, b6⟩ := isGateObject ht
  rw [sizeGateObject] at h1
  refine acalls_of Try.func49 (by decide +kernel) (code := Try.f49.body.getD .skip) (n := 42) (c := c_laws_eqGateObject) (rs := [(.tmp 4)]) rfl rfl k_laws_eqGateObject (by kernel_rfl) (by simp) (fun hσ => ?_)
  simp -implicitDefEqProofs only [c_laws_eqGateObject, ne_self, beq_self_eq_true, S0, S1, S2, S3, S4, S5, S6, S7, S8, S9, S10, S11, S12, S13, S14, S15, S16, S17, opv, opvs, eget, env0, setD, lenStr, lenSl, isNilP, isNilS, putAt, if_true, if_false, reduceCtorEq, Nat.reduceLeDiff, Nat.reduceEqDiff, Nat.reduceSub, Nat.reduceMul, Nat.reduceAdd]
  refine call_pure (eqStringS n3 _ b3 (by omega)) ?_
  simp -implicitDefEqProofs only [ne_self, beq_self_eq_true, S0, S1, S2, S3, S4, S5, S6, S7, S8, S9, S10, S11, S12, S13, S14, S15, S16, S17, opv, opvs, eget, env0, setD, lenStr, lenSl, isNilP, isNilS, putAt, if_true, if_false, reduceCtorEq, Nat.reduceLeDiff, Nat.reduceEqDiff, Nat.reduceSub, Nat.reduceMul, Nat.reduceAdd]
  refine call_pure (eqStringS n5 _ b5 (by omega)) ?_
  simp -implicitDefEqProofs only [ne_self, beq_self_eq_true, S0, S1, S2, S3, S4, S5, S6, S7, S8, S9, S10, S11, S12, S13, S14, S15, S16, S17, opv, opvs, eget, env0, setD, lenStr, lenSl, isNilP, isNilS, putAt, if_true, if_false, reduceCtorEq, Nat.reduceLeDiff, Nat.reduceEqDiff, Nat.reduceSub, Nat.reduceMul, Nat.reduceAdd]
  exact ret_same rfl hσ rfl ⟨rfl, rfl⟩
theorem eqGateObject_x {n0} {n1} {n2} {n3} {n4} {n5} {n6} (σ : Store) (b0 : n0.length ≤ maxLen) (b1 : n1.length ≤ maxLen) (b2 : n2.length ≤ maxLen) (b3 : T.is (.sl 1 [.str]) n3) (b5 : T.is (.sl 1 [.str]) n5) (b6 : (Lit.int .i64 n6).wf = true) (hz : n0.length + n1.length + n2.length + n3.size + n5.size ≤ 1099511627776) : ACalls Try.prog 49 [.agg [.t (.str n0), .t (.str n1), .t (.str n2), .t n3, .t (.bool n4), .t n5, .t (.int .i64 n6)], .agg [.t (.str n0), .t (.str n1), .t (.str n2), .t n3, .t (.bool n4), .t n5, .t (.int .i64 n6)]] σ (TrueR σ) := by
  have h := eqGateObject [(.str n0), (.str n1), (.str n2), n3, (.bool n4), n5, (.int .i64 n6)] σ (mkGateObject b0 b1 b2 b3 b5 b6) (by rw [sizeGateObject]; omega)
  exact h
def c_laws_toGateObject : C := (.seq (.ops [⟨(some 1), none, (.box (.t 0))⟩, ⟨(some 2), none, (.new [(.t (.str [])), (.t (.str [])), (.t (.str [])), .nils, (.t (.bool false)), .nils, (.t (.int .i64 0))])⟩]) (.seq (.ops [⟨(some 3), none, (.new [(.t (.str [])), (.t (.str [])), (.t (.str [])), .nils, (.t (.bool false)), .nils, (.t (.int .i64 0))])⟩]) (.seq (.ops [⟨(some 4), none, (.fieldAddr 0 (.t 1))⟩, ⟨(some 5), none, (.load none (.t 4))⟩, ⟨(some 6), none, (.fieldAddr 0 (.t 3))⟩, ⟨none, none, (.store 1 (.t 6) (.t 5))⟩]) (.seq (.ops [⟨(some 7), none, (.fieldAddr 1 (.t 1))⟩, ⟨(some 8), none, (.load none (.t 7))⟩, ⟨(some 9), none, (.fieldAddr 1 (.t 3))⟩, ⟨none, none, (.store 1 (.t 9) (.t 8))⟩]) (.seq (.ops [⟨(some 10), none, (.fieldAddr 2 (.t 1))⟩, ⟨(some 11), none, (.load none (.t 10))⟩, ⟨(some 12), none, (.fieldAddr 2 (.t 3))⟩, ⟨none, none, (.store 1 (.t 12) (.t 11))⟩]) (.seq (.ops [⟨(some 13), none, (.fieldAddr 3 (.t 1))⟩, ⟨(some 14), none, (.load none (.t 13))⟩, ⟨(some 15), none, (.call (.c (.fn (.func 89) [])) [(.t 14)])⟩, ⟨(some 16), none, (.fieldAddr 3 (.t 3))⟩, ⟨none, none, (.store 1 (.t 16) (.t 15))⟩]) (.seq (.ops [⟨(some 17), none, (.fieldAddr 4 (.t 1))⟩, ⟨(some 18), none, (.load none (.t 17))⟩, ⟨(some 19), none, (.fieldAddr 4 (.t 3))⟩, ⟨none, none, (.store 1 (.t 19) (.t 18))⟩]) (.seq (.ops [⟨(some 20), none, (.fieldAddr 5 (.t 1))⟩, ⟨(some 21), none, (.load none (.t 20))⟩, ⟨(some 22), none, (.call (.c (.fn (.func 89) [])) [(.t 21)])⟩, ⟨(some 23), none, (.fieldAddr 5 (.t 3))⟩, ⟨none, none, (.store 1 (.t 23) (.t 22))⟩]) (.seq (.ops [⟨(some 24), none, (.fieldAddr 6 (.t 1))⟩, ⟨(some 25), none, (.load none (.t 24))⟩, ⟨(some 26), none, (.fieldAddr 6 (.t 3))⟩, ⟨none, none, (.store 1 (.t 26) (.t 25))⟩]) (.seq (.ops [⟨(some 27), none, (.load (some 7) (.t 3))⟩, ⟨none, none, (.store 7 (.t 2) (.t 27))⟩]) .ret))))))))))
theorem k_laws_toGateObject : comp Try.prog 28 (Try.f47.body.getD .skip) = some c_laws_toGateObject := by kernel_rfl

theorem toGateObject : ToLOk Try.prog 47 shGateObject := by
  rintro ts σ ht h1
  obtain ⟨n0, n1, n2, n3, n4, n5, n6, rfl, b0, b1, b2, b3, b5, b6⟩ := isGateObject ht
  rw [sizeGateObject] at h1
  refine acalls_of Try.func47 (by decide +kernel) (code := Try.f47.body.getD .skip) (n := 28) (c := c_laws_toGateObject) (rs := [(.cell 2 (some 7))]) rfl rfl k_laws_toGateObject (by kernel_rfl) (by simp) (fun hσ => ?_)
  simp -implicitDefEqProofs only [c_laws_toGateObject, S0, S1, S2, S3, S4, S5, S6, S7, S8, S9, S10, S11, S12, S13, S14, S15, S16, S17, opv, opvs, eget, env0, setD, lenStr, lenSl, isNilP, isNilS, putAt, if_true, if_false, reduceCtorEq, Nat.reduceLeDiff, Nat.reduceEqDiff, Nat.reduceSub, Nat.reduceMul, Nat.reduceAdd]
  refine call_by (by rw [List.append_nil]; exact toStringS n3 _ b3 (by omega)) ?_
  rintro u3 σ' ⟨τ3, j3, rfl, o3, w3⟩
  have e3 := o3.one
  simp -implicitDefEqProofs only [one_cells e3, e3, S0, S1, S2, S3, S4, S5, S6, S7, S8, S9, S10, S11, S12, S13, S14, S15, S16, S17, opv, opvs, eget, env0, setD, lenStr, lenSl, isNilP, isNilS, putAt, if_true, if_false, reduceCtorEq, Nat.reduceLeDiff, Nat.reduceEqDiff, Nat.reduceSub, Nat.reduceMul, Nat.reduceAdd]
  refine call_by (by rw [List.append_nil]; exact toStringS n5 _ b5 (by omega)) ?_
  rintro u5 σ' ⟨τ5, j5, rfl, o5, w5⟩
  have e5 := o5.one
  simp -implicitDefEqProofs only [one_cells e5, e3, e5, S0, S1, S2, S3, S4, S5, S6, S7, S8, S9, S10, S11, S12, S13, S14, S15, S16, S17, opv, opvs, eget, env0, setD, lenStr, lenSl, isNilP, isNilS, putAt, if_true, if_false, reduceCtorEq, Nat.reduceLeDiff, Nat.reduceEqDiff, Nat.reduceSub, Nat.reduceMul, Nat.reduceAdd]
  refine fin_keep (by simp) ⟨_, _, (j3 ++ (j5 ++ [])), rfl, rfl, (OwnL.str (OwnL.str (OwnL.str (OwnL.lst (own_pre (A := [_, _, _]) (A' := [_, _, _]) (B := τ3) (B' := (τ3 ++ τ5)) o3 w3 (List.append_assoc ..) rfl rfl (by simp) (by simp)) (OwnL.bool (OwnL.lst (own_pre (A := [_, _, _]) (A' := [_, _, _]) (B := (τ3 ++ τ5)) (B' := (τ3 ++ τ5)) o5 w5 (List.append_assoc ..) rfl rfl (by simp) (by simp)) (OwnL.int OwnL.nil0))))))), ?_⟩
  simp only [List.length_append, List.length_cons, List.length_nil] at w3 w5 ⊢
  refine Wi.mono (a := σ.length) ?_ (Nat.le_refl _) (Nat.le_refl _)
  exact wi_more w3 (wi_last w5 (by omega) (by omega)) (by omega) (by omega)
theorem toGateObject_x {n0} {n1} {n2} {n3} {n4} {n5} {n6} (σ : Store) (b0 : n0.length ≤ maxLen) (b1 : n1.length ≤ maxLen) (b2 : n2.length ≤ maxLen) (b3 : T.is (.sl 1 [.str]) n3) (b5 : T.is (.sl 1 [.str]) n5) (b6 : (Lit.int .i64 n6).wf = true) (hz : n0.length + n1.length + n2.length + n3.size + n5.size ≤ 1048576) : ACalls Try.prog 47 [.agg [.t (.str n0), .t (.str n1), .t (.str n2), .t n3, .t (.bool n4), .t n5, .t (.int .i64 n6)]] σ (ToLR [(.str n0), (.str n1), (.str n2), n3, (.bool n4), n5, (.int .i64 n6)] σ) := by
  have h := toGateObject [(.str n0), (.str n1), (.str n2), n3, (.bool n4), n5, (.int .i64 n6)] σ (mkGateObject b0 b1 b2 b3 b5 b6) (by rw [sizeGateObject]; omega)
  exact h
theorem i_szGateObjectS : Is Try.prog 73 27 [(.tmp 4)] (tSzS 7 45) := ⟨_, _, Try.func73, by decide +kernel, rfl, rfl, by kernel_rfl, rfl⟩
theorem szGateObjectS : SzOk Try.prog 73 (.sl 7 shGateObject) := szS_ok rfl i_szGateObjectS szGateObject
theorem i_eqGateObjectS : Is Try.prog 81 27 [(.tmp 4)] (tEqS 7 49) := ⟨_, _, Try.func81, by decide +kernel, rfl, rfl, by kernel_rfl, rfl⟩
theorem eqGateObjectS : EqOk Try.prog 81 (.sl 7 shGateObject) := eqS_ok rfl i_eqGateObjectS eqGateObject
theorem i_toGateObjectS : Is Try.prog 77 23 [(.tmp 2)] (tToS 7 112 47 [.t (.str []), .t (.str []), .t (.str []), .nils, .t (.bool false), .nils, .t (.int .i64 0)]) := ⟨_, _, Try.func77, by decide +kernel, rfl, rfl, by kernel_rfl, rfl⟩
theorem toGateObjectS : ToOk Try.prog 77 (.sl 7 shGateObject) := toS_ok 112 [.t (.str []), .t (.str []), .t (.str []), .nils, .t (.bool false), .nils, .t (.int .i64 0)] rfl (by decide) rfl (by decide) i_toGateObjectS toGateObject
def shGateLaw : List Sh := [.sl 2 shGateShape, .sl 6 shGateMend, .sl 2 shGateTeam]
theorem isGateLaw {ts : List T} (ht : T.isL shGateLaw ts) : ∃ n0 n1 n2, ts = [n0, n1, n2] ∧ T.is (.sl 2 shGateShape) n0 ∧ T.is (.sl 6 shGateMend) n1 ∧ T.is (.sl 2 shGateTeam) n2 := by
  simp only [shGateLaw, isL_cons, isL_nil, is_int, is_bool, is_str] at ht
  obtain ⟨n0, _, rfl, b0, n1, _, rfl, b1, n2, _, rfl, b2, rfl⟩ := ht
  exact ⟨_, _, _, rfl, b0, b1, b2⟩
theorem mkGateLaw {n0} {n1} {n2} (b0 : T.is (.sl 2 shGateShape) n0) (b1 : T.is (.sl 6 shGateMend) n1) (b2 : T.is (.sl 2 shGateTeam) n2) : T.isL shGateLaw [n0, n1, n2] := by
  simp only [shGateLaw, isL_cons, isL_nil, is_int, is_bool, is_str]
  exact ⟨_, _, rfl, b0, _, _, rfl, b1, _, _, rfl, b2, rfl⟩
theorem sizeGateLaw {n0} {n1} {n2} : T.sizeL [n0, n1, n2] = n0.size + n1.size + n2.size := by
  simp only [sizeL_cons, sizeL_nil, size_int, size_bool, size_str]
  try omega
def c_laws_szGateLaw : C := (.seq (.ops [⟨(some 2), none, (.box (.t 0))⟩, ⟨(some 4), none, (.mv (.c (.t (.int .i64 0))))⟩]) (.seq (.ops [⟨(some 5), none, (.fieldAddr 0 (.t 2))⟩, ⟨(some 6), none, (.load none (.t 5))⟩, ⟨(some 7), none, (.mv (.t 1))⟩, ⟨(some 8), none, (.call (.c (.fn (.func 50) [])) [(.t 6), (.t 7)])⟩, ⟨(some 1), none, (.mv (.t 8))⟩]) (.seq (.seq (.ops [⟨(some 9), none, (.mv (.t 1))⟩, ⟨(some 10), none, (.bin .lss (.t 9) (.c (.t (.int .i64 0))))⟩]) (.cond (.t 10) (.seq (.ops [⟨(some 4), none, (.mv (.c (.t (.int .i64 (-1)))))⟩]) .ret) .skip)) (.seq (.ops [⟨(some 11), none, (.fieldAddr 1 (.t 2))⟩, ⟨(some 12), none, (.load none (.t 11))⟩, ⟨(some 13), none, (.mv (.t 1))⟩, ⟨(some 14), none, (.call (.c (.fn (.func 60) [])) [(.t 12), (.t 13)])⟩, ⟨(some 1), none, (.mv (.t 14))⟩]) (.seq (.seq (.ops [⟨(some 15), none, (.mv (.t 1))⟩, ⟨(some 16), none, (.bin .lss (.t 15) (.c (.t (.int .i64 0))))⟩]) (.cond (.t 16) (.seq (.ops [⟨(some 4), none, (.mv (.c (.t (.int .i64 (-1)))))⟩]) .ret) .skip)) (.seq (.ops [⟨(some 17), none, (.fieldAddr 2 (.t 2))⟩, ⟨(some 18), none, (.load none (.t 17))⟩, ⟨(some 19), none, (.mv (.t 1))⟩, ⟨(some 20), none, (.call (.c (.fn (.func 13) [])) [(.t 18), (.t 19)])⟩, ⟨(some 1), none, (.mv (.t 20))⟩]) (.seq (.seq (.ops [⟨(some 21), none, (.mv (.t 1))⟩, ⟨(some 22), none, (.bin .lss (.t 21) (.c (.t (.int .i64 0))))⟩]) (.cond (.t 22) (.seq (.ops [⟨(some 4), none, (.mv (.c (.t (.int .i64 (-1)))))⟩]) .ret) .skip)) (.seq (.ops [⟨(some 23), none, (.mv (.t 1))⟩, ⟨(some 4), none, (.mv (.t 23))⟩]) .ret))))))))
theorem k_laws_szGateLaw : comp Try.prog 24 (Try.f20.body.getD .skip) = some c_laws_szGateLaw := by kernel_rfl

theorem szGateLaw : SzLOk Try.prog 20 shGateLaw := by
  rintro ts left σ ht h0 h1
  obtain ⟨n0, n1, n2, rfl, b0, b1, b2⟩ := isGateLaw ht
  refine acalls_of Try.func20 (by decide +kernel) (code := Try.f20.body.getD .skip) (n := 24) (c := c_laws_szGateLaw) (rs := [(.tmp 4)]) rfl rfl k_laws_szGateLaw (by kernel_rfl) (by simp) (fun hσ => ?_)
  try simp only [maxLen] at *
  have fin : ∀ {n : Int} {τ : Store}, n ≤ left → (0 ≤ n → ((n0.size + n1.size + n2.size : Nat) : Int) + n ≤ left) → retV σ.length (SzR (T.sizeL [n0, n1, n2]) left σ) (σ ++ τ) (some [.t (.int .i64 n)]) := fun h h' => ret_same rfl hσ rfl ⟨⟨_, rfl, h, fun h0 => by have := h' h0; rw [sizeGateLaw]; exact this⟩, rfl⟩
  simp -implicitDefEqProofs only [c_laws_szGateLaw, S0, S1, S2, S3, S4, S5, S6, S7, S8, S9, S10, S11, S12, S13, S14, S15, S16, S17, opv, opvs, eget, env0, setD, lenStr, lenSl, isNilP, isNilS, putAt, if_true, if_false, reduceCtorEq, Nat.reduceLeDiff, Nat.reduceEqDiff, Nat.reduceSub, Nat.reduceMul, Nat.reduceAdd]
  refine call_by (by rw [List.append_nil]; exact szGateShapeS n0 left _ b0 (by omega) (by omega)) ?_
  rintro r σ' ⟨⟨m0, rfl, hm0, hs0⟩, rfl⟩
  try simp only [sizeGateLaw] at hs0
  simp -implicitDefEqProofs only [S0, S1, S2, S3, S4, S5, S6, S7, S8, S9, S10, S11, S12, S13, S14, S15, S16, S17, opv, opvs, eget, env0, setD, lenStr, lenSl, isNilP, isNilS, putAt, if_true, if_false, reduceCtorEq, Nat.reduceLeDiff, Nat.reduceEqDiff, Nat.reduceSub, Nat.reduceMul, Nat.reduceAdd]
  refine cond_split (fun h => ?_) (fun h => ?_)
  · simp -implicitDefEqProofs only [S0, S1, S2, S3, S4, S5, S6, S7, S8, S9, S10, S11, S12, S13, S14, S15, S16, S17, opv, opvs, eget, env0, setD, lenStr, lenSl, isNilP, isNilS, putAt, if_true, if_false, reduceCtorEq, Nat.reduceLeDiff, Nat.reduceEqDiff, Nat.reduceSub, Nat.reduceMul, Nat.reduceAdd]
    simp only [decide_eq_true_eq] at h
    exact fin (by omega) (by omega)
  simp only [decide_eq_false_iff_not, Int.not_lt] at h
  replace hs0 := hs0 h
  simp -implicitDefEqProofs only [S0, S1, S2, S3, S4, S5, S6, S7, S8, S9, S10, S11, S12, S13, S14, S15, S16, S17, opv, opvs, eget, env0, setD, lenStr, lenSl, isNilP, isNilS, putAt, if_true, if_false, reduceCtorEq, Nat.reduceLeDiff, Nat.reduceEqDiff, Nat.reduceSub, Nat.reduceMul, Nat.reduceAdd]
  refine call_by (by rw [List.append_nil]; exact szGateMendS n1 m0 _ b1 (by omega) (by omega)) ?_
  rintro r σ' ⟨⟨m1, rfl, hm1, hs1⟩, rfl⟩
  try simp only [sizeGateLaw] at hs1
  simp -implicitDefEqProofs only [S0, S1, S2, S3, S4, S5, S6, S7, S8, S9, S10, S11, S12, S13, S14, S15, S16, S17, opv, opvs, eget, env0, setD, lenStr, lenSl, isNilP, isNilS, putAt, if_true, if_false, reduceCtorEq, Nat.reduceLeDiff, Nat.reduceEqDiff, Nat.reduceSub, Nat.reduceMul, Nat.reduceAdd]
  refine cond_split (fun h => ?_) (fun h => ?_)
  · simp -implicitDefEqProofs only [S0, S1, S2, S3, S4, S5, S6, S7, S8, S9, S10, S11, S12, S13, S14, S15, S16, S17, opv, opvs, eget, env0, setD, lenStr, lenSl, isNilP, isNilS, putAt, if_true, if_false, reduceCtorEq, Nat.reduceLeDiff, Nat.reduceEqDiff, Nat.reduceSub, Nat.reduceMul, Nat.reduceAdd]
    simp only [decide_eq_true_eq] at h
    exact fin (by omega) (by omega)
  simp only [decide_eq_false_iff_not, Int.not_lt] at h
  replace hs1 := hs1 h
  simp -implicitDefEqProofs only [S0, S1, S2, S3, S4, S5, S6, S7, S8, S9, S10, S11, S12, S13, S14, S15, S16, S17, opv, opvs, eget, env0, setD, lenStr, lenSl, isNilP, isNilS, putAt, if_true, if_false, reduceCtorEq, Nat.reduceLeDiff, Nat.reduceEqDiff, Nat.reduceSub, Nat.reduceMul, Nat.reduceAdd]
  refine call_by (by rw [List.append_nil]; exact szGateTeamS n2 m1 _ b2 (by omega) (by omega)) ?_
  rintro r σ' ⟨⟨m2, rfl, hm2, hs2⟩, rfl⟩
  try simp only [sizeGateLaw] at hs2
  simp -implicitDefEqProofs only [S0, S1, S2, S3, S4, S5, S6, S7, S8, S9, S10, S11, S12, S13, S14, S15, S16, S17, opv, opvs, eget, env0, setD, lenStr, lenSl, isNilP, isNilS, putAt, if_true, if_false, reduceCtorEq, Nat.reduceLeDiff, Nat.reduceEqDiff, Nat.reduceSub, Nat.reduceMul, Nat.reduceAdd]
  refine cond_split (fun h => ?_) (fun h => ?_)
  · simp -implicitDefEqProofs only [S0, S1, S2, S3, S4, S5, S6, S7, S8, S9, S10, S11, S12, S13, S14, S15, S16, S17, opv, opvs, eget, env0, setD, lenStr, lenSl, isNilP, isNilS, putAt, if_true, if_false, reduceCtorEq, Nat.reduceLeDiff, Nat.reduceEqDiff, Nat.reduceSub, Nat.reduceMul, Nat.reduceAdd]
    simp only [decide_eq_true_eq] at h
    exact fin (by omega) (by omega)
  simp only [decide_eq_false_iff_not, Int.not_lt] at h
  replace hs2 := hs2 h
  simp -implicitDefEqProofs only [S0, S1, S2, S3, S4, S5, S6, S7, S8, S9, S10, S11, S12, S13, S14, S15, S16, S17, opv, opvs, eget, env0, setD, lenStr, lenSl, isNilP, isNilS, putAt, if_true, if_false, reduceCtorEq, Nat.reduceLeDiff, Nat.reduceEqDiff, Nat.reduceSub, Nat.reduceMul, Nat.reduceAdd]
  exact fin (by omega) (fun _ => by omega)
theorem szGateLaw_x {n0} {n1} {n2} (left : Int) (σ : Store) (b0 : T.is (.sl 2 shGateShape) n0) (b1 : T.is (.sl 6 shGateMend) n1) (b2 : T.is (.sl 2 shGateTeam) n2) (h0 : 0 ≤ left) (h1 : left ≤ 1048576) : ACalls Try.prog 20 [.agg [.t n0, .t n1, .t n2], .t (.int .i64 left)] σ (SzR (T.sizeL [n0, n1, n2]) left σ) := by
  have h := szGateLaw [n0, n1, n2] left σ (mkGateLaw b0 b1 b2) h0 h1
  exact h
def c_laws_eqGateLaw : C := (.seq (.ops [⟨(some 2), none, (.box (.t 0))⟩, ⟨(some 3), none, (.box (.t 1))⟩, ⟨(some 4), none, (.mv (.c (.t (.bool false))))⟩]) (.seq (.seq (.ops [⟨(some 5), none, (.fieldAddr 0 (.t 2))⟩, ⟨(some 6), none, (.load none (.t 5))⟩, ⟨(some 7), none, (.fieldAddr 0 (.t 3))⟩, ⟨(some 8), none, (.load none (.t 7))⟩, ⟨(some 9), none, (.call (.c (.fn (.func 54) [])) [(.t 6), (.t 8)])⟩, ⟨(some 10), none, (.un .not (.t 9))⟩]) (.cond (.t 10) (.seq (.ops [⟨(some 4), none, (.mv (.c (.t (.bool false))))⟩]) .ret) .skip)) (.seq (.seq (.ops [⟨(some 11), none, (.fieldAddr 1 (.t 2))⟩, ⟨(some 12), none, (.load none (.t 11))⟩, ⟨(some 13), none, (.fieldAddr 1 (.t 3))⟩, ⟨(some 14), none, (.load none (.t 13))⟩, ⟨(some 15), none, (.call (.c (.fn (.func 64) [])) [(.t 12), (.t 14)])⟩, ⟨(some 16), none, (.un .not (.t 15))⟩]) (.cond (.t 16) (.seq (.ops [⟨(some 4), none, (.mv (.c (.t (.bool false))))⟩]) .ret) .skip)) (.seq (.seq (.ops [⟨(some 17), none, (.fieldAddr 2 (.t 2))⟩, ⟨(some 18), none, (.load none (.t 17))⟩, ⟨(some 19), none, (.fieldAddr 2 (.t 3))⟩, ⟨(some 20), none, (.load none (.t 19))⟩, ⟨(some 21), none, (.call (.c (.fn (.func 17) [])) [(.t 18), (.t 20)])⟩, ⟨(some 22), none, (.un .not (.t 21))⟩]) (.cond (.t 22) (.seq (.ops [⟨(some 4), none, (.mv (.c (.t (.bool false))))⟩]) .ret) .skip)) (.seq (.ops [⟨(some 4), none, (.mv (.c (.t (.bool true))))⟩]) .ret)))))
theorem k_laws_eqGateLaw : comp Try.prog 23 (Try.f26.body.getD .skip) = some c_laws_eqGateLaw := by kernel_rfl

theorem eqGateLaw : EqLOk Try.prog 26 shGateLaw := by
  rintro ts σ ht h1
  obtain ⟨n0, n1, n2, rfl, b0, b1, b2⟩ := isGateLaw ht
  rw [sizeGateLaw] at h1
  refine acalls_of Try.func26 (by decide +kernel) (code := Try.f26.body.getD .skip) (n := 23) (c := c_laws_eqGateLaw) (rs := [(.tmp 4)]) rfl rfl k_laws_eqGateLaw (by kernel_rfl) (by simp) (fun hσ => ?_)
  simp -implicitDefEqProofs only [c_laws_eqGateLaw, ne_self, beq_self_eq_true, S0, S1, S2, S3, S4, S5, S6, S7, S8, S9, S10, S11, S12, S13, S14, S15, S16, S17, opv, opvs, eget, env0, setD, lenStr, lenSl, isNilP, isNilS, putAt, if_true, if_false, reduceCtorEq, Nat.reduceLeDiff, Nat.reduceEqDiff, Nat.reduceSub, Nat.reduceMul, Nat.reduceAdd]
  refine call_pure (eqGateShapeS n0 _ b0 (by omega)) ?_
  simp -implicitDefEqProofs only [ne_self, beq_self_eq_true, S0, S1, S2, S3, S4, S5, S6, S7, S8, S9, S10, S11, S12, S13, S14, S15, S16, S17, opv, opvs, eget, env0, setD, lenStr, lenSl, isNilP, isNilS, putAt, if_true, if_false, reduceCtorEq, Nat.reduceLeDiff, Nat.reduceEqDiff, Nat.reduceSub, Nat.reduceMul, Nat.reduceAdd]
  refine call_pure (eqGateMendS n1 _ b1 (by omega)) ?_
  simp -implicitDefEqProofs only [ne_self, beq_self_eq_true, S0, S1, S2, S3, S4, S5, S6, S7, S8, S9, S10, S11, S12, S13, S14, S15, S16, S17, opv, opvs, eget, env0, setD, lenStr, lenSl, isNilP, isNilS, putAt, if_true, if_false, reduceCtorEq, Nat.reduceLeDiff, Nat.reduceEqDiff, Nat.reduceSub, Nat.reduceMul, Nat.reduceAdd]
  refine call_pure (eqGateTeamS n2 _ b2 (by omega)) ?_
  simp -implicitDefEqProofs only [ne_self, beq_self_eq_true, S0, S1, S2, S3, S4, S5, S6, S7, S8, S9, S10, S11, S12, S13, S14, S15, S16, S17, opv, opvs, eget, env0, setD, lenStr, lenSl, isNilP, isNilS, putAt, if_true, if_false, reduceCtorEq, Nat.reduceLeDiff, Nat.reduceEqDiff, Nat.reduceSub, Nat.reduceMul, Nat.reduceAdd]
  exact ret_same rfl hσ rfl ⟨rfl, rfl⟩
theorem eqGateLaw_x {n0} {n1} {n2} (σ : Store) (b0 : T.is (.sl 2 shGateShape) n0) (b1 : T.is (.sl 6 shGateMend) n1) (b2 : T.is (.sl 2 shGateTeam) n2) (hz : n0.size + n1.size + n2.size ≤ 1099511627776) : ACalls Try.prog 26 [.agg [.t n0, .t n1, .t n2], .agg [.t n0, .t n1, .t n2]] σ (TrueR σ) := by
  have h := eqGateLaw [n0, n1, n2] σ (mkGateLaw b0 b1 b2) (by rw [sizeGateLaw]; omega)
  exact h
def c_laws_toGateLaw : C := (.seq (.ops [⟨(some 1), none, (.box (.t 0))⟩, ⟨(some 2), none, (.new [.nils, .nils, .nils])⟩]) (.seq (.ops [⟨(some 3), none, (.new [.nils, .nils, .nils])⟩]) (.seq (.ops [⟨(some 4), none, (.fieldAddr 0 (.t 1))⟩, ⟨(some 5), none, (.load none (.t 4))⟩, ⟨(some 6), none, (.call (.c (.fn (.func 52) [])) [(.t 5)])⟩, ⟨(some 7), none, (.fieldAddr 0 (.t 3))⟩, ⟨none, none, (.store 1 (.t 7) (.t 6))⟩]) (.seq (.ops [⟨(some 8), none, (.fieldAddr 1 (.t 1))⟩, ⟨(some 9), none, (.load none (.t 8))⟩, ⟨(some 10), none, (.call (.c (.fn (.func 62) [])) [(.t 9)])⟩, ⟨(some 11), none, (.fieldAddr 1 (.t 3))⟩, ⟨none, none, (.store 1 (.t 11) (.t 10))⟩]) (.seq (.ops [⟨(some 12), none, (.fieldAddr 2 (.t 1))⟩, ⟨(some 13), none, (.load none (.t 12))⟩, ⟨(some 14), none, (.call (.c (.fn (.func 15) [])) [(.t 13)])⟩, ⟨(some 15), none, (.fieldAddr 2 (.t 3))⟩, ⟨none, none, (.store 1 (.t 15) (.t 14))⟩]) (.seq (.ops [⟨(some 16), none, (.load (some 3) (.t 3))⟩, ⟨none, none, (.store 3 (.t 2) (.t 16))⟩]) .ret))))))
theorem k_laws_toGateLaw : comp Try.prog 17 (Try.f23.body.getD .skip) = some c_laws_toGateLaw := by kernel_rfl

theorem toGateLaw : ToLOk Try.prog 23 shGateLaw := by
  rintro ts σ ht h1
  obtain ⟨n0, n1, n2, rfl, b0, b1, b2⟩ := isGateLaw ht
  rw [sizeGateLaw] at h1
  refine acalls_of Try.func23 (by decide +kernel) (code := Try.f23.body.getD .skip) (n := 17) (c := c_laws_toGateLaw) (rs := [(.cell 2 (some 3))]) rfl rfl k_laws_toGateLaw (by kernel_rfl) (by simp) (fun hσ => ?_)
  simp -implicitDefEqProofs only [c_laws_toGateLaw, S0, S1, S2, S3, S4, S5, S6, S7, S8, S9, S10, S11, S12, S13, S14, S15, S16, S17, opv, opvs, eget, env0, setD, lenStr, lenSl, isNilP, isNilS, putAt, if_true, if_false, reduceCtorEq, Nat.reduceLeDiff, Nat.reduceEqDiff, Nat.reduceSub, Nat.reduceMul, Nat.reduceAdd]
  refine call_by (by rw [List.append_nil]; exact toGateShapeS n0 _ b0 (by omega)) ?_
  rintro u0 σ' ⟨τ0, j0, rfl, o0, w0⟩
  have e0 := o0.one
  simp -implicitDefEqProofs only [one_cells e0, e0, S0, S1, S2, S3, S4, S5, S6, S7, S8, S9, S10, S11, S12, S13, S14, S15, S16, S17, opv, opvs, eget, env0, setD, lenStr, lenSl, isNilP, isNilS, putAt, if_true, if_false, reduceCtorEq, Nat.reduceLeDiff, Nat.reduceEqDiff, Nat.reduceSub, Nat.reduceMul, Nat.reduceAdd]
  refine call_by (by rw [List.append_nil]; exact toGateMendS n1 _ b1 (by omega)) ?_
  rintro u1 σ' ⟨τ1, j1, rfl, o1, w1⟩
  have e1 := o1.one
  simp -implicitDefEqProofs only [one_cells e1, e0, e1, S0, S1, S2, S3, S4, S5, S6, S7, S8, S9, S10, S11, S12, S13, S14, S15, S16, S17, opv, opvs, eget, env0, setD, lenStr, lenSl, isNilP, isNilS, putAt, if_true, if_false, reduceCtorEq, Nat.reduceLeDiff, Nat.reduceEqDiff, Nat.reduceSub, Nat.reduceMul, Nat.reduceAdd]
  refine call_by (by rw [List.append_nil]; exact toGateTeamS n2 _ b2 (by omega)) ?_
  rintro u2 σ' ⟨τ2, j2, rfl, o2, w2⟩
  have e2 := o2.one
  simp -implicitDefEqProofs only [one_cells e2, e0, e1, e2, S0, S1, S2, S3, S4, S5, S6, S7, S8, S9, S10, S11, S12, S13, S14, S15, S16, S17, opv, opvs, eget, env0, setD, lenStr, lenSl, isNilP, isNilS, putAt, if_true, if_false, reduceCtorEq, Nat.reduceLeDiff, Nat.reduceEqDiff, Nat.reduceSub, Nat.reduceMul, Nat.reduceAdd]
  refine fin_keep (by simp) ⟨_, _, (j0 ++ (j1 ++ (j2 ++ []))), rfl, rfl, (OwnL.lst (own_pre (A := [_, _, _]) (A' := [_, _, _]) (B := τ0) (B' := (τ0 ++ (τ1 ++ τ2))) o0 w0 (List.append_assoc ..) rfl rfl (by simp) (by simp)) (OwnL.lst (own_pre (A := [_, _, _]) (A' := [_, _, _]) (B := (τ0 ++ τ1)) (B' := (τ0 ++ (τ1 ++ τ2))) o1 w1 (List.append_assoc ..) rfl rfl (by simp) (by simp)) (OwnL.lst (own_pre (A := [_, _, _]) (A' := [_, _, _]) (B := ((τ0 ++ τ1) ++ τ2)) (B' := (τ0 ++ (τ1 ++ τ2))) o2 w2 (List.append_assoc ..) rfl rfl (by simp) (by simp)) OwnL.nil0))), ?_⟩
  simp only [List.length_append, List.length_cons, List.length_nil] at w0 w1 w2 ⊢
  refine Wi.mono (a := σ.length) ?_ (Nat.le_refl _) (Nat.le_refl _)
  exact wi_more w0 (wi_more w1 (wi_last w2 (by omega) (by omega)) (by omega) (by omega)) (by omega) (by omega)
theorem toGateLaw_x {n0} {n1} {n2} (σ : Store) (b0 : T.is (.sl 2 shGateShape) n0) (b1 : T.is (.sl 6 shGateMend) n1) (b2 : T.is (.sl 2 shGateTeam) n2) (hz : n0.size + n1.size + n2.size ≤ 1048576) : ACalls Try.prog 23 [.agg [.t n0, .t n1, .t n2]] σ (ToLR [n0, n1, n2] σ) := by
  have h := toGateLaw [n0, n1, n2] σ (mkGateLaw b0 b1 b2) (by rw [sizeGateLaw]; omega)
  exact h
def shGateGrant : List Sh := [.int .i64, .str, .str, .sl 1 [.int .i64], .str, .str, .str]
theorem isGateGrant {ts : List T} (ht : T.isL shGateGrant ts) : ∃ n0 n1 n2 n3 n4 n5 n6, ts = [(.int .i64 n0), (.str n1), (.str n2), n3, (.str n4), (.str n5), (.str n6)] ∧ (Lit.int .i64 n0).wf = true ∧ n1.length ≤ maxLen ∧ n2.length ≤ maxLen ∧ T.is (.sl 1 [.int .i64]) n3 ∧ n4.length ≤ maxLen ∧ n5.length ≤ maxLen ∧ n6.length ≤ maxLen := by
  simp only [shGateGrant, isL_cons, isL_nil, is_int, is_bool, is_str] at ht
  obtain ⟨_, _, rfl, ⟨n0, rfl, b0⟩, _, _, rfl, ⟨n1, rfl, b1⟩, _, _, rfl, ⟨n2, rfl, b2⟩, n3, _, rfl, b3, _, _, rfl, ⟨n4, rfl, b4⟩, _, _, rfl, ⟨n5, rfl, b5⟩, _, _, rfl, ⟨n6, rfl, b6⟩, rfl⟩ := ht
  exact ⟨_, _, _, _, _, _, _, rfl, b0, b1, b2, b3, b4, b5, b6⟩
theorem mkGateGrant {n0} {n1} {n2} {n3} {n4} {n5} {n6} (b0 : (Lit.int .i64 n0).wf = true) (b1 : n1.length ≤ maxLen) (b2 : n2.length ≤ maxLen) (b3 : T.is (.sl 1 [.int .i64]) n3) (b4 : n4.length ≤ maxLen) (b5 : n5.length ≤ maxLen) (b6 : n6.length ≤ maxLen) : T.isL shGateGrant [(.int .i64 n0), (.str n1), (.str n2), n3, (.str n4), (.str n5), (.str n6)] := by
  simp only [shGateGrant, isL_cons, isL_nil, is_int, is_bool, is_str]
  exact ⟨_, _, rfl, ⟨_, rfl, b0⟩, _, _, rfl, ⟨_, rfl, b1⟩, _, _, rfl, ⟨_, rfl, b2⟩, _, _, rfl, b3, _, _, rfl, ⟨_, rfl, b4⟩, _, _, rfl, ⟨_, rfl, b5⟩, _, _, rfl, ⟨_, rfl, b6⟩, rfl⟩
theorem sizeGateGrant {n0} {n1} {n2} {n3} {n4} {n5} {n6} : T.sizeL [(.int .i64 n0), (.str n1), (.str n2), n3, (.str n4), (.str n5), (.str n6)] = n1.length + n2.length + n3.size + n4.length + n5.length + n6.length := by
  simp only [sizeL_cons, sizeL_nil, size_int, size_bool, size_str]
  try omega
def c_laws_szGateGrant : C := (.seq (.ops [⟨(some 2), none, (.box (.t 0))⟩, ⟨(some 4), none, (.mv (.c (.t (.int .i64 0))))⟩]) (.seq (.ops [⟨(some 5), none, (.mv (.t 1))⟩, ⟨(some 6), none, (.fieldAddr 1 (.t 2))⟩, ⟨(some 7), none, (.load none (.t 6))⟩, ⟨(some 8), none, (.len true (.t 7))⟩, ⟨(some 9), none, (.bin .sub (.t 5) (.t 8))⟩, ⟨(some 1), none, (.mv (.t 9))⟩]) (.seq (.seq (.ops [⟨(some 10), none, (.mv (.t 1))⟩, ⟨(some 11), none, (.bin .lss (.t 10) (.c (.t (.int .i64 0))))⟩]) (.cond (.t 11) (.seq (.ops [⟨(some 4), none, (.mv (.c (.t (.int .i64 (-1)))))⟩]) .ret) .skip)) (.seq (.ops [⟨(some 12), none, (.mv (.t 1))⟩, ⟨(some 13), none, (.fieldAddr 2 (.t 2))⟩, ⟨(some 14), none, (.load none (.t 13))⟩, ⟨(some 15), none, (.len true (.t 14))⟩, ⟨(some 16), none, (.bin .sub (.t 12) (.t 15))⟩, ⟨(some 1), none, (.mv (.t 16))⟩]) (.seq (.seq (.ops [⟨(some 17), none, (.mv (.t 1))⟩, ⟨(some 18), none, (.bin .lss (.t 17) (.c (.t (.int .i64 0))))⟩]) (.cond (.t 18) (.seq (.ops [⟨(some 4), none, (.mv (.c (.t (.int .i64 (-1)))))⟩]) .ret) .skip)) (.seq (.ops [⟨(some 19), none, (.fieldAddr 3 (.t 2))⟩, ⟨(some 20), none, (.load (some 4) (.t 19))⟩, ⟨(some 21), none, (.mv (.t 1))⟩, ⟨(some 22), none, (.call (.c (.fn (.func 33) [])) [(.t 20), (.t 21)])⟩, ⟨(some 1), none, (.mv (.t 22))⟩]) (.seq (.seq (.ops [⟨(some 23), none, (.mv (.t 1))⟩, ⟨(some 24), none, (.bin .lss (.t 23) (.c (.t (.int .i64 0))))⟩]) (.cond (.t 24) (.seq (.ops [⟨(some 4), none, (.mv (.c (.t (.int .i64 (-1)))))⟩]) .ret) .skip)) (.seq (.ops [⟨(some 25), none, (.mv (.t 1))⟩, ⟨(some 4), none, (.mv (.t 25))⟩]) .ret))))))))
theorem k_laws_szGateGrant : comp Try.prog 26 (Try.f129.body.getD .skip) = some c_laws_szGateGrant := by kernel_rfl

theorem szGateGrant : SzLOk Try.prog 129 shGateGrant := by
  rintro ts left σ ht h0 h1
  obtain ⟨n0, n1, n2, n3, n4, n5, n6, rfl, b0, b1, b2, b3, b4, b5, b6⟩ := isGateGrant ht
  refine acalls_of Try.func129 (by decide +kernel) (code := Try.f129.body.getD .skip) (n := 26) (c := c_laws_szGateGrant) (rs := [(.tmp 4)]) rfl rfl k_laws_szGateGrant (by kernel_rfl) (by simp) (fun hσ => ?_)
  try simp only [maxLen] at *
  have fin : ∀ {n : Int} {τ : Store}, n ≤ left → (0 ≤ n → ((n1.length + n2.length + n3.size + n4.length + n5.length + n6.length : Nat) : Int) + n ≤ left) → retV σ.length (SzR (T.sizeL [(.int .i64 n0), (.str n1), (.str n2), n3, (.str n4), (.str n5), (.str n6)]) left σ) (σ ++ τ) (some [.t (.int .i64 n)]) := fun h h' => ret_same rfl hσ rfl ⟨⟨_, rfl, h, fun h0 => by have := h' h0; rw [sizeGateGrant]; exact this⟩, rfl⟩
  have w1 : IntKind.i64.wrap (left - n1.length) = left - n1.length := IntWalk.i64_in _ (by omega)
  simp -implicitDefEqProofs only [c_laws_szGateGrant, w1, S0, S1, S2, S3, S4, S5, S6, S7, S8, S9, S10, S11, S12, S13, S14, S15, S16, S17, opv, opvs, eget, env0, setD, lenStr, lenSl, isNilP, isNilS, putAt, if_true, if_false, reduceCtorEq, Nat.reduceLeDiff, Nat.reduceEqDiff, Nat.reduceSub, Nat.reduceMul, Nat.reduceAdd]
  refine cond_split (fun h => ?_) (fun h => ?_)
  · simp -implicitDefEqProofs only [S0, S1, S2, S3, S4, S5, S6, S7, S8, S9, S10, S11, S12, S13, S14, S15, S16, S17, opv, opvs, eget, env0, setD, lenStr, lenSl, isNilP, isNilS, putAt, if_true, if_false, reduceCtorEq, Nat.reduceLeDiff, Nat.reduceEqDiff, Nat.reduceSub, Nat.reduceMul, Nat.reduceAdd]
    simp only [decide_eq_true_eq] at h
    exact fin (by omega) (by omega)
  simp only [decide_eq_false_iff_not, Int.not_lt] at h
  have w2 : IntKind.i64.wrap ((left - n1.length) - n2.length) = (left - n1.length) - n2.length := IntWalk.i64_in _ (by omega)
  simp -implicitDefEqProofs only [w2, S0, S1, S2, S3, S4, S5, S6, S7, S8, S9, S10, S11, S12, S13, S14, S15, S16, S17, opv, opvs, eget, env0, setD, lenStr, lenSl, isNilP, isNilS, putAt, if_true, if_false, reduceCtorEq, Nat.reduceLeDiff, Nat.reduceEqDiff, Nat.reduceSub, Nat.reduceMul, Nat.reduceAdd]
  refine cond_split (fun h => ?_) (fun h => ?_)
  · simp -implicitDefEqProofs only [S0, S1, S2, S3, S4, S5, S6, S7, S8, S9, S10, S11, S12, S13, S14, S15, S16, S17, opv, opvs, eget, env0, setD, lenStr, lenSl, isNilP, isNilS, putAt, if_true, if_false, reduceCtorEq, Nat.reduceLeDiff, Nat.reduceEqDiff, Nat.reduceSub, Nat.reduceMul, Nat.reduceAdd]
    simp only [decide_eq_true_eq] at h
    exact fin (by omega) (by omega)
  simp only [decide_eq_false_iff_not, Int.not_lt] at h
  simp -implicitDefEqProofs only [S0, S1, S2, S3, S4, S5, S6, S7, S8, S9, S10, S11, S12, S13, S14, S15, S16, S17, opv, opvs, eget, env0, setD, lenStr, lenSl, isNilP, isNilS, putAt, if_true, if_false, reduceCtorEq, Nat.reduceLeDiff, Nat.reduceEqDiff, Nat.reduceSub, Nat.reduceMul, Nat.reduceAdd]
  refine call_by (by rw [List.append_nil]; exact szGateRule_x  ((left - n1.length) - n2.length) _ b3 b4 b5 b6 (by omega) (by omega)) ?_
  rintro r σ' ⟨⟨m3, rfl, hm3, hs3⟩, rfl⟩
  try simp only [sizeGateRule] at hs3
  simp -implicitDefEqProofs only [S0, S1, S2, S3, S4, S5, S6, S7, S8, S9, S10, S11, S12, S13, S14, S15, S16, S17, opv, opvs, eget, env0, setD, lenStr, lenSl, isNilP, isNilS, putAt, if_true, if_false, reduceCtorEq, Nat.reduceLeDiff, Nat.reduceEqDiff, Nat.reduceSub, Nat.reduceMul, Nat.reduceAdd]
  refine cond_split (fun h => ?_) (fun h => ?_)
  · simp -implicitDefEqProofs only [S0, S1, S2, S3, S4, S5, S6, S7, S8, S9, S10, S11, S12, S13, S14, S15, S16, S17, opv, opvs, eget, env0, setD, lenStr, lenSl, isNilP, isNilS, putAt, if_true, if_false, reduceCtorEq, Nat.reduceLeDiff, Nat.reduceEqDiff, Nat.reduceSub, Nat.reduceMul, Nat.reduceAdd]
    simp only [decide_eq_true_eq] at h
    exact fin (by omega) (by omega)
  simp only [decide_eq_false_iff_not, Int.not_lt] at h
  replace hs3 := hs3 h
  simp -implicitDefEqProofs only [S0, S1, S2, S3, S4, S5, S6, S7, S8, S9, S10, S11, S12, S13, S14, S15, S16, S17, opv, opvs, eget, env0, setD, lenStr, lenSl, isNilP, isNilS, putAt, if_true, if_false, reduceCtorEq, Nat.reduceLeDiff, Nat.reduceEqDiff, Nat.reduceSub, Nat.reduceMul, Nat.reduceAdd]
  exact fin (by omega) (fun _ => by omega)
theorem szGateGrant_x {n0} {n1} {n2} {n3} {n4} {n5} {n6} (left : Int) (σ : Store) (b0 : (Lit.int .i64 n0).wf = true) (b1 : n1.length ≤ maxLen) (b2 : n2.length ≤ maxLen) (b3 : T.is (.sl 1 [.int .i64]) n3) (b4 : n4.length ≤ maxLen) (b5 : n5.length ≤ maxLen) (b6 : n6.length ≤ maxLen) (h0 : 0 ≤ left) (h1 : left ≤ 1048576) : ACalls Try.prog 129 [.agg [.t (.int .i64 n0), .t (.str n1), .t (.str n2), .t n3, .t (.str n4), .t (.str n5), .t (.str n6)], .t (.int .i64 left)] σ (SzR (T.sizeL [(.int .i64 n0), (.str n1), (.str n2), n3, (.str n4), (.str n5), (.str n6)]) left σ) := by
  have h := szGateGrant [(.int .i64 n0), (.str n1), (.str n2), n3, (.str n4), (.str n5), (.str n6)] left σ (mkGateGrant b0 b1 b2 b3 b4 b5 b6) h0 h1
  exact h
def c_laws_eqGateGrant : C := (.seq (.ops [⟨(some 2), none, (.box (.t 0))⟩, ⟨(some 3), none, (.box (.t 1))⟩, ⟨(some 4), none, (.mv (.c (.t (.bool false))))⟩]) (.seq (.seq (.ops [⟨(some 5), none, (.fieldAddr 0 (.t 2))⟩, ⟨(some 6), none, (.load none (.t 5))⟩, ⟨(some 7), none, (.fieldAddr 0 (.t 3))⟩, ⟨(some 8), none, (.load none (.t 7))⟩, ⟨(some 9), none, (.bin .neq (.t 6) (.t 8))⟩]) (.cond (.t 9) (.seq (.ops [⟨(some 4), none, (.mv (.c (.t (.bool false))))⟩]) .ret) .skip)) (.seq (.seq (.ops [⟨(some 10), none, (.fieldAddr 1 (.t 2))⟩, ⟨(some 11), none, (.load none (.t 10))⟩, ⟨(some 12), none, (.fieldAddr 1 (.t 3))⟩, ⟨(some 13), none, (.load none (.t 12))⟩, ⟨(some 14), none, (.bin .neq (.t 11) (.t 13))⟩]) (.cond (.t 14) (.seq (.ops [⟨(some 4), none, (.mv (.c (.t (.bool false))))⟩]) .ret) .skip)) (.seq (.seq (.ops [⟨(some 15), none, (.fieldAddr 2 (.t 2))⟩, ⟨(some 16), none, (.load none (.t 15))⟩, ⟨(some 17), none, (.fieldAddr 2 (.t 3))⟩, ⟨(some 18), none, (.load none (.t 17))⟩, ⟨(some 19), none, (.bin .neq (.t 16) (.t 18))⟩]) (.cond (.t 19) (.seq (.ops [⟨(some 4), none, (.mv (.c (.t (.bool false))))⟩]) .ret) .skip)) (.seq (.seq (.ops [⟨(some 20), none, (.fieldAddr 3 (.t 2))⟩, ⟨(some 21), none, (.load (some 4) (.t 20))⟩, ⟨(some 22), none, (.fieldAddr 3 (.t 3))⟩, ⟨(some 23), none, (.load (some 4) (.t 22))⟩, ⟨(some 24), none, (.call (.c (.fn (.func 39) [])) [(.t 21), (.t 23)])⟩, ⟨(some 25), none, (.un .not (.t 24))⟩]) (.cond (.t 25) (.seq (.ops [⟨(some 4), none, (.mv (.c (.t (.bool false))))⟩]) .ret) .skip)) (.seq (.ops [⟨(some 4), none, (.mv (.c (.t (.bool true))))⟩]) .ret))))))
theorem k_laws_eqGateGrant : comp Try.prog 26 (Try.f135.body.getD .skip) = some c_laws_eqGateGrant := by kernel_rfl

theorem eqGateGrant : EqLOk Try.prog 135 shGateGrant := by
  rintro ts σ ht h1
  obtain ⟨n0, n1, n2, n3, n4, n5, n6, rfl, b0, b1, b2, b3, b4, b5, b6⟩ := isGateGrant ht
  rw [sizeGateGrant] at h1
  refine acalls_of Try.func135 (by decide +kernel) (code := Try.f135.body.getD .skip) (n := 26) (c := c_laws_eqGateGrant) (rs := [(.tmp 4)]) rfl rfl k_laws_eqGateGrant (by kernel_rfl) (by simp) (fun hσ => ?_)
  simp -implicitDefEqProofs only [c_laws_eqGateGrant, ne_self, beq_self_eq_true, S0, S1, S2, S3, S4, S5, S6, S7, S8, S9, S10, S11, S12, S13, S14, S15, S16, S17, opv, opvs, eget, env0, setD, lenStr, lenSl, isNilP, isNilS, putAt, if_true, if_false, reduceCtorEq, Nat.reduceLeDiff, Nat.reduceEqDiff, Nat.reduceSub, Nat.reduceMul, Nat.reduceAdd]
  refine call_pure (eqGateRule_x  _ b3 b4 b5 b6 (by omega)) ?_
  simp -implicitDefEqProofs only [ne_self, beq_self_eq_true, S0, S1, S2, S3, S4, S5, S6, S7, S8, S9, S10, S11, S12, S13, S14, S15, S16, S17, opv, opvs, eget, env0, setD, lenStr, lenSl, isNilP, isNilS, putAt, if_true, if_false, reduceCtorEq, Nat.reduceLeDiff, Nat.reduceEqDiff, Nat.reduceSub, Nat.reduceMul, Nat.reduceAdd]
  exact ret_same rfl hσ rfl ⟨rfl, rfl⟩
theorem eqGateGrant_x {n0} {n1} {n2} {n3} {n4} {n5} {n6} (σ : Store) (b0 : (Lit.int .i64 n0).wf = true) (b1 : n1.length ≤ maxLen) (b2 : n2.length ≤ maxLen) (b3 : T.is (.sl 1 [.int .i64]) n3) (b4 : n4.length ≤ maxLen) (b5 : n5.length ≤ maxLen) (b6 : n6.length ≤ maxLen) (hz : n1.length + n2.length + n3.size + n4.length + n5.length + n6.length ≤ 1099511627776) : ACalls Try.prog 135 [.agg [.t (.int .i64 n0), .t (.str n1), .t (.str n2), .t n3, .t (.str n4), .t (.str n5), .t (.str n6)], .agg [.t (.int .i64 n0), .t (.str n1), .t (.str n2), .t n3, .t (.str n4), .t (.str n5), .t (.str n6)]] σ (TrueR σ) := by
  have h := eqGateGrant [(.int .i64 n0), (.str n1), (.str n2), n3, (.str n4), (.str n5), (.str n6)] σ (mkGateGrant b0 b1 b2 b3 b4 b5 b6) (by rw [sizeGateGrant]; omega)
  exact h
def c_laws_toGateGrant : C := (.seq (.ops [⟨(some 1), none, (.box (.t 0))⟩, ⟨(some 2), none, (.new [(.t (.int .i64 0)), (.t (.str [])), (.t (.str [])), .nils, (.t (.str [])), (.t (.str [])), (.t (.str []))])⟩]) (.seq (.ops [⟨(some 3), none, (.new [(.t (.int .i64 0)), (.t (.str [])), (.t (.str [])), .nils, (.t (.str [])), (.t (.str [])), (.t (.str []))])⟩]) (.seq (.ops [⟨(some 4), none, (.fieldAddr 0 (.t 1))⟩, ⟨(some 5), none, (.load none (.t 4))⟩, ⟨(some 6), none, (.fieldAddr 0 (.t 3))⟩, ⟨none, none, (.store 1 (.t 6) (.t 5))⟩]) (.seq (.ops [⟨(some 7), none, (.fieldAddr 1 (.t 1))⟩, ⟨(some 8), none, (.load none (.t 7))⟩, ⟨(some 9), none, (.fieldAddr 1 (.t 3))⟩, ⟨none, none, (.store 1 (.t 9) (.t 8))⟩]) (.seq (.ops [⟨(some 10), none, (.fieldAddr 2 (.t 1))⟩, ⟨(some 11), none, (.load none (.t 10))⟩, ⟨(some 12), none, (.fieldAddr 2 (.t 3))⟩, ⟨none, none, (.store 1 (.t 12) (.t 11))⟩]) (.seq (.ops [⟨(some 13), none, (.fieldAddr 3 (.t 1))⟩, ⟨(some 14), none, (.load (some 4) (.t 13))⟩, ⟨(some 15), none, (.call (.c (.fn (.func 36) [])) [(.t 14)])⟩, ⟨(some 16), none, (.fieldAddr 3 (.t 3))⟩, ⟨none, none, (.store 4 (.t 16) (.t 15))⟩]) (.seq (.ops [⟨(some 17), none, (.load (some 7) (.t 3))⟩, ⟨none, none, (.store 7 (.t 2) (.t 17))⟩]) .ret)))))))
theorem k_laws_toGateGrant : comp Try.prog 18 (Try.f132.body.getD .skip) = some c_laws_toGateGrant := by kernel_rfl

theorem toGateGrant : ToLOk Try.prog 132 shGateGrant := by
  rintro ts σ ht h1
  obtain ⟨n0, n1, n2, n3, n4, n5, n6, rfl, b0, b1, b2, b3, b4, b5, b6⟩ := isGateGrant ht
  rw [sizeGateGrant] at h1
  refine acalls_of Try.func132 (by decide +kernel) (code := Try.f132.body.getD .skip) (n := 18) (c := c_laws_toGateGrant) (rs := [(.cell 2 (some 7))]) rfl rfl k_laws_toGateGrant (by kernel_rfl) (by simp) (fun hσ => ?_)
  simp -implicitDefEqProofs only [c_laws_toGateGrant, S0, S1, S2, S3, S4, S5, S6, S7, S8, S9, S10, S11, S12, S13, S14, S15, S16, S17, opv, opvs, eget, env0, setD, lenStr, lenSl, isNilP, isNilS, putAt, if_true, if_false, reduceCtorEq, Nat.reduceLeDiff, Nat.reduceEqDiff, Nat.reduceSub, Nat.reduceMul, Nat.reduceAdd]
  refine call_by (by rw [List.append_nil]; exact toGateRule_x  _ b3 b4 b5 b6 (by omega)) ?_
  rintro r σ' ⟨us, τ3, j3, rfl, rfl, o3, w3⟩
  obtain ⟨u3x0, u3x1, u3x2, u3x3, rfl⟩ : ∃ u3x0 u3x1 u3x2 u3x3, us = [u3x0, u3x1, u3x2, u3x3] := list4x (by have := o3.len; simpa using this)
  have e3 := o3.ones
  simp only [List.all_cons, List.all_nil, Bool.and_eq_true, and_true] at e3
  obtain ⟨e3x0, e3x1, e3x2, e3x3⟩ := e3
  simp -implicitDefEqProofs only [e3x0, e3x1, e3x2, e3x3, S0, S1, S2, S3, S4, S5, S6, S7, S8, S9, S10, S11, S12, S13, S14, S15, S16, S17, opv, opvs, eget, env0, setD, lenStr, lenSl, isNilP, isNilS, putAt, if_true, if_false, reduceCtorEq, Nat.reduceLeDiff, Nat.reduceEqDiff, Nat.reduceSub, Nat.reduceMul, Nat.reduceAdd]
  refine fin_keep (by simp) ⟨_, _, (j3 ++ []), rfl, rfl, (OwnL.int (OwnL.str (OwnL.str (own_app4 (ownL_pre (A := [_, _, _]) (A' := [_, _, _]) (B := τ3) (B' := τ3) o3 w3 (List.append_assoc ..) rfl rfl (by simp) (by simp)) OwnL.nil0)))), ?_⟩
  simp only [List.length_append, List.length_cons, List.length_nil] at w3 ⊢
  refine Wi.mono (a := σ.length) ?_ (Nat.le_refl _) (Nat.le_refl _)
  exact wi_last w3 (by omega) (by omega)
theorem toGateGrant_x {n0} {n1} {n2} {n3} {n4} {n5} {n6} (σ : Store) (b0 : (Lit.int .i64 n0).wf = true) (b1 : n1.length ≤ maxLen) (b2 : n2.length ≤ maxLen) (b3 : T.is (.sl 1 [.int .i64]) n3) (b4 : n4.length ≤ maxLen) (b5 : n5.length ≤ maxLen) (b6 : n6.length ≤ maxLen) (hz : n1.length + n2.length + n3.size + n4.length + n5.length + n6.length ≤ 1048576) : ACalls Try.prog 132 [.agg [.t (.int .i64 n0), .t (.str n1), .t (.str n2), .t n3, .t (.str n4), .t (.str n5), .t (.str n6)]] σ (ToLR [(.int .i64 n0), (.str n1), (.str n2), n3, (.str n4), (.str n5), (.str n6)] σ) := by
  have h := toGateGrant [(.int .i64 n0), (.str n1), (.str n2), n3, (.str n4), (.str n5), (.str n6)] σ (mkGateGrant b0 b1 b2 b3 b4 b5 b6) (by rw [sizeGateGrant]; omega)
  exact h
theorem i_szGateGrantS : Is Try.prog 74 27 [(.tmp 4)] (tSzS 7 129) := ⟨_, _, Try.func74, by decide +kernel, rfl, rfl, by kernel_rfl, rfl⟩
theorem szGateGrantS : SzOk Try.prog 74 (.sl 7 shGateGrant) := szS_ok rfl i_szGateGrantS szGateGrant
theorem i_eqGateGrantS : Is Try.prog 82 27 [(.tmp 4)] (tEqS 7 135) := ⟨_, _, Try.func82, by decide +kernel, rfl, rfl, by kernel_rfl, rfl⟩
theorem eqGateGrantS : EqOk Try.prog 82 (.sl 7 shGateGrant) := eqS_ok rfl i_eqGateGrantS eqGateGrant
theorem i_toGateGrantS : Is Try.prog 78 23 [(.tmp 2)] (tToS 7 112 132 [.t (.int .i64 0), .t (.str []), .t (.str []), .nils, .t (.str []), .t (.str []), .t (.str [])]) := ⟨_, _, Try.func78, by decide +kernel, rfl, rfl, by kernel_rfl, rfl⟩
theorem toGateGrantS : ToOk Try.prog 78 (.sl 7 shGateGrant) := toS_ok 112 [.t (.int .i64 0), .t (.str []), .t (.str []), .nils, .t (.str []), .t (.str []), .t (.str [])] rfl (by decide) rfl (by decide) i_toGateGrantS toGateGrant
def shGateLedger : List Sh := [.str, .str, .int .i64, .int .i64]
theorem isGateLedger {ts : List T} (ht : T.isL shGateLedger ts) : ∃ n0 n1 n2 n3, ts = [(.str n0), (.str n1), (.int .i64 n2), (.int .i64 n3)] ∧ n0.length ≤ maxLen ∧ n1.length ≤ maxLen ∧ (Lit.int .i64 n2).wf = true ∧ (Lit.int .i64 n3).wf = true := by
  simp only [shGateLedger, isL_cons, isL_nil, is_int, is_bool, is_str] at ht
  obtain ⟨_, _, rfl, ⟨n0, rfl, b0⟩, _, _, rfl, ⟨n1, rfl, b1⟩, _, _, rfl, ⟨n2, rfl, b2⟩, _, _, rfl, ⟨n3, rfl, b3⟩, rfl⟩ := ht
  exact ⟨_, _, _, _, rfl, b0, b1, b2, b3⟩
theorem mkGateLedger {n0} {n1} {n2} {n3} (b0 : n0.length ≤ maxLen) (b1 : n1.length ≤ maxLen) (b2 : (Lit.int .i64 n2).wf = true) (b3 : (Lit.int .i64 n3).wf = true) : T.isL shGateLedger [(.str n0), (.str n1), (.int .i64 n2), (.int .i64 n3)] := by
  simp only [shGateLedger, isL_cons, isL_nil, is_int, is_bool, is_str]
  exact ⟨_, _, rfl, ⟨_, rfl, b0⟩, _, _, rfl, ⟨_, rfl, b1⟩, _, _, rfl, ⟨_, rfl, b2⟩, _, _, rfl, ⟨_, rfl, b3⟩, rfl⟩
theorem sizeGateLedger {n0} {n1} {n2} {n3} : T.sizeL [(.str n0), (.str n1), (.int .i64 n2), (.int .i64 n3)] = n0.length + n1.length := by
  simp only [sizeL_cons, sizeL_nil, size_int, size_bool, size_str]
  try omega
def c_laws_szGateLedger : C := (.seq (.ops [⟨(some 2), none, (.box (.t 0))⟩, ⟨(some 4), none, (.mv (.c (.t (.int .i64 0))))⟩]) (.seq (.ops [⟨(some 5), none, (.mv (.t 1))⟩, ⟨(some 6), none, (.fieldAddr 0 (.t 2))⟩, ⟨(some 7), none, (.load none (.t 6))⟩, ⟨(some 8), none, (.len true (.t 7))⟩, ⟨(some 9), none, (.bin .sub (.t 5) (.t 8))⟩, ⟨(some 1), none, (.mv (.t 9))⟩]) (.seq (.seq (.ops [⟨(some 10), none, (.mv (.t 1))⟩, ⟨(some 11), none, (.bin .lss (.t 10) (.c (.t (.int .i64 0))))⟩]) (.cond (.t 11) (.seq (.ops [⟨(some 4), none, (.mv (.c (.t (.int .i64 (-1)))))⟩]) .ret) .skip)) (.seq (.ops [⟨(some 12), none, (.mv (.t 1))⟩, ⟨(some 13), none, (.fieldAddr 1 (.t 2))⟩, ⟨(some 14), none, (.load none (.t 13))⟩, ⟨(some 15), none, (.len true (.t 14))⟩, ⟨(some 16), none, (.bin .sub (.t 12) (.t 15))⟩, ⟨(some 1), none, (.mv (.t 16))⟩]) (.seq (.seq (.ops [⟨(some 17), none, (.mv (.t 1))⟩, ⟨(some 18), none, (.bin .lss (.t 17) (.c (.t (.int .i64 0))))⟩]) (.cond (.t 18) (.seq (.ops [⟨(some 4), none, (.mv (.c (.t (.int .i64 (-1)))))⟩]) .ret) .skip)) (.seq (.ops [⟨(some 19), none, (.mv (.t 1))⟩, ⟨(some 4), none, (.mv (.t 19))⟩]) .ret))))))
theorem k_laws_szGateLedger : comp Try.prog 20 (Try.f130.body.getD .skip) = some c_laws_szGateLedger := by kernel_rfl

theorem szGateLedger : SzLOk Try.prog 130 shGateLedger := by
  rintro ts left σ ht h0 h1
  obtain ⟨n0, n1, n2, n3, rfl, b0, b1, b2, b3⟩ := isGateLedger ht
  refine acalls_of Try.func130 (by decide +kernel) (code := Try.f130.body.getD .skip) (n := 20) (c := c_laws_szGateLedger) (rs := [(.tmp 4)]) rfl rfl k_laws_szGateLedger (by kernel_rfl) (by simp) (fun hσ => ?_)
  try simp only [maxLen] at *
  have fin : ∀ {n : Int} {τ : Store}, n ≤ left → (0 ≤ n → ((n0.length + n1.length : Nat) : Int) + n ≤ left) → retV σ.length (SzR (T.sizeL [(.str n0), (.str n1), (.int .i64 n2), (.int .i64 n3)]) left σ) (σ ++ τ) (some [.t (.int .i64 n)]) := fun h h' => ret_same rfl hσ rfl ⟨⟨_, rfl, h, fun h0 => by have := h' h0; rw [sizeGateLedger]; exact this⟩, rfl⟩
  have w0 : IntKind.i64.wrap (left - n0.length) = left - n0.length := IntWalk.i64_in _ (by omega)
  simp -implicitDefEqProofs only [c_laws_szGateLedger, w0, S0, S1, S2, S3, S4, S5, S6, S7, S8, S9, S10, S11, S12, S13, S14, S15, S16, S17, opv, opvs, eget, env0, setD, lenStr, lenSl, isNilP, isNilS, putAt, if_true, if_false, reduceCtorEq, Nat.reduceLeDiff, Nat.reduceEqDiff, Nat.reduceSub, Nat.reduceMul, Nat.reduceAdd]
  refine cond_split (fun h => ?_) (fun h => ?_)
  · simp -implicitDefEqProofs only [S0, S1, S2, S3, S4, S5, S6, S7, S8, S9, S10, S11, S12, S13, S14, S15, S16, S17, opv, opvs, eget, env0, setD, lenStr, lenSl, isNilP, isNilS, putAt, if_true, if_false, reduceCtorEq, Nat.reduceLeDiff, Nat.reduceEqDiff, Nat.reduceSub, Nat.reduceMul, Nat.reduceAdd]
    simp only [decide_eq_true_eq] at h
    exact fin (by omega) (by omega)
  simp only [decide_eq_false_iff_not, Int.not_lt] at h
  have w1 : IntKind.i64.wrap ((left - n0.length) - n1.length) = (left - n0.length) - n1.length := IntWalk.i64_in _ (by omega)
  simp -implicitDefEqProofs only [w1, S0, S1, S2, S3, S4, S5, S6, S7, S8, S9, S10, S11, S12, S13, S14, S15, S16, S17, opv, opvs, eget, env0, setD, lenStr, lenSl, isNilP, isNilS, putAt, if_true, if_false, reduceCtorEq, Nat.reduceLeDiff, Nat.reduceEqDiff, Nat.reduceSub, Nat.reduceMul, Nat.reduceAdd]
  refine cond_split (fun h => ?_) (fun h => ?_)
  · simp -implicitDefEqProofs only [S0, S1, S2, S3, S4, S5, S6, S7, S8, S9, S10, S11, S12, S13, S14, S15, S16, S17, opv, opvs, eget, env0, setD, lenStr, lenSl, isNilP, isNilS, putAt, if_true, if_false, reduceCtorEq, Nat.reduceLeDiff, Nat.reduceEqDiff, Nat.reduceSub, Nat.reduceMul, Nat.reduceAdd]
    simp only [decide_eq_true_eq] at h
    exact fin (by omega) (by omega)
  simp only [decide_eq_false_iff_not, Int.not_lt] at h
  simp -implicitDefEqProofs only [S0, S1, S2, S3, S4, S5, S6, S7, S8, S9, S10, S11, S12, S13, S14, S15, S16, S17, opv, opvs, eget, env0, setD, lenStr, lenSl, isNilP, isNilS, putAt, if_true, if_false, reduceCtorEq, Nat.reduceLeDiff, Nat.reduceEqDiff, Nat.reduceSub, Nat.reduceMul, Nat.reduceAdd]
  exact fin (by omega) (fun _ => by omega)
theorem szGateLedger_x {n0} {n1} {n2} {n3} (left : Int) (σ : Store) (b0 : n0.length ≤ maxLen) (b1 : n1.length ≤ maxLen) (b2 : (Lit.int .i64 n2).wf = true) (b3 : (Lit.int .i64 n3).wf = true) (h0 : 0 ≤ left) (h1 : left ≤ 1048576) : ACalls Try.prog 130 [.agg [.t (.str n0), .t (.str n1), .t (.int .i64 n2), .t (.int .i64 n3)], .t (.int .i64 left)] σ (SzR (T.sizeL [(.str n0), (.str n1), (.int .i64 n2), (.int .i64 n3)]) left σ) := by
  have h := szGateLedger [(.str n0), (.str n1), (.int .i64 n2), (.int .i64 n3)] left σ (mkGateLedger b0 b1 b2 b3) h0 h1
  exact h
def c_laws_eqGateLedger : C := (.seq (.ops [⟨(some 2), none, (.box (.t 0))⟩, ⟨(some 3), none, (.box (.t 1))⟩, ⟨(some 4), none, (.mv (.c (.t (.bool false))))⟩]) (.seq (.seq (.ops [⟨(some 5), none, (.fieldAddr 0 (.t 2))⟩, ⟨(some 6), none, (.load none (.t 5))⟩, ⟨(some 7), none, (.fieldAddr 0 (.t 3))⟩, ⟨(some 8), none, (.load none (.t 7))⟩, ⟨(some 9), none, (.bin .neq (.t 6) (.t 8))⟩]) (.cond (.t 9) (.seq (.ops [⟨(some 4), none, (.mv (.c (.t (.bool false))))⟩]) .ret) .skip)) (.seq (.seq (.ops [⟨(some 10), none, (.fieldAddr 1 (.t 2))⟩, ⟨(some 11), none, (.load none (.t 10))⟩, ⟨(some 12), none, (.fieldAddr 1 (.t 3))⟩, ⟨(some 13), none, (.load none (.t 12))⟩, ⟨(some 14), none, (.bin .neq (.t 11) (.t 13))⟩]) (.cond (.t 14) (.seq (.ops [⟨(some 4), none, (.mv (.c (.t (.bool false))))⟩]) .ret) .skip)) (.seq (.seq (.ops [⟨(some 15), none, (.fieldAddr 2 (.t 2))⟩, ⟨(some 16), none, (.load none (.t 15))⟩, ⟨(some 17), none, (.fieldAddr 2 (.t 3))⟩, ⟨(some 18), none, (.load none (.t 17))⟩, ⟨(some 19), none, (.bin .neq (.t 16) (.t 18))⟩]) (.cond (.t 19) (.seq (.ops [⟨(some 4), none, (.mv (.c (.t (.bool false))))⟩]) .ret) .skip)) (.seq (.seq (.ops [⟨(some 20), none, (.fieldAddr 3 (.t 2))⟩, ⟨(some 21), none, (.load none (.t 20))⟩, ⟨(some 22), none, (.fieldAddr 3 (.t 3))⟩, ⟨(some 23), none, (.load none (.t 22))⟩, ⟨(some 24), none, (.bin .neq (.t 21) (.t 23))⟩]) (.cond (.t 24) (.seq (.ops [⟨(some 4), none, (.mv (.c (.t (.bool false))))⟩]) .ret) .skip)) (.seq (.ops [⟨(some 4), none, (.mv (.c (.t (.bool true))))⟩]) .ret))))))
theorem k_laws_eqGateLedger : comp Try.prog 25 (Try.f136.body.getD .skip) = some c_laws_eqGateLedger := by kernel_rfl

theorem eqGateLedger : EqLOk Try.prog 136 shGateLedger := by
  rintro ts σ ht h1
  obtain ⟨n0, n1, n2, n3, rfl, b0, b1, b2, b3⟩ := isGateLedger ht
  rw [sizeGateLedger] at h1
  refine acalls_of Try.func136 (by decide +kernel) (code := Try.f136.body.getD .skip) (n := 25) (c := c_laws_eqGateLedger) (rs := [(.tmp 4)]) rfl rfl k_laws_eqGateLedger (by kernel_rfl) (by simp) (fun hσ => ?_)
  simp -implicitDefEqProofs only [c_laws_eqGateLedger, ne_self, beq_self_eq_true, S0, S1, S2, S3, S4, S5, S6, S7, S8, S9, S10, S11, S12, S13, S14, S15, S16, S17, opv, opvs, eget, env0, setD, lenStr, lenSl, isNilP, isNilS, putAt, if_true, if_false, reduceCtorEq, Nat.reduceLeDiff, Nat.reduceEqDiff, Nat.reduceSub, Nat.reduceMul, Nat.reduceAdd]
  exact ret_same rfl hσ rfl ⟨rfl, rfl⟩
theorem eqGateLedger_x {n0} {n1} {n2} {n3} (σ : Store) (b0 : n0.length ≤ maxLen) (b1 : n1.length ≤ maxLen) (b2 : (Lit.int .i64 n2).wf = true) (b3 : (Lit.int .i64 n3).wf = true) (hz : n0.length + n1.length ≤ 1099511627776) : ACalls Try.prog 136 [.agg [.t (.str n0), .t (.str n1), .t (.int .i64 n2), .t (.int .i64 n3)], .agg [.t (.str n0), .t (.str n1), .t (.int .i64 n2), .t (.int .i64 n3)]] σ (TrueR σ) := by
  have h := eqGateLedger [(.str n0), (.str n1), (.int .i64 n2), (.int .i64 n3)] σ (mkGateLedger b0 b1 b2 b3) (by rw [sizeGateLedger]; omega)
  exact h
def c_laws_toGateLedger : C := (.seq (.ops [⟨(some 1), none, (.box (.t 0))⟩, ⟨(some 2), none, (.new [(.t (.str [])), (.t (.str [])), (.t (.int .i64 0)), (.t (.int .i64 0))])⟩]) (.seq (.ops [⟨(some 3), none, (.new [(.t (.str [])), (.t (.str [])), (.t (.int .i64 0)), (.t (.int .i64 0))])⟩]) (.seq (.ops [⟨(some 4), none, (.fieldAddr 0 (.t 1))⟩, ⟨(some 5), none, (.load none (.t 4))⟩, ⟨(some 6), none, (.fieldAddr 0 (.t 3))⟩, ⟨none, none, (.store 1 (.t 6) (.t 5))⟩]) (.seq (.ops [⟨(some 7), none, (.fieldAddr 1 (.t 1))⟩, ⟨(some 8), none, (.load none (.t 7))⟩, ⟨(some 9), none, (.fieldAddr 1 (.t 3))⟩, ⟨none, none, (.store 1 (.t 9) (.t 8))⟩]) (.seq (.ops [⟨(some 10), none, (.fieldAddr 2 (.t 1))⟩, ⟨(some 11), none, (.load none (.t 10))⟩, ⟨(some 12), none, (.fieldAddr 2 (.t 3))⟩, ⟨none, none, (.store 1 (.t 12) (.t 11))⟩]) (.seq (.ops [⟨(some 13), none, (.fieldAddr 3 (.t 1))⟩, ⟨(some 14), none, (.load none (.t 13))⟩, ⟨(some 15), none, (.fieldAddr 3 (.t 3))⟩, ⟨none, none, (.store 1 (.t 15) (.t 14))⟩]) (.seq (.ops [⟨(some 16), none, (.load (some 4) (.t 3))⟩, ⟨none, none, (.store 4 (.t 2) (.t 16))⟩]) .ret)))))))
theorem k_laws_toGateLedger : comp Try.prog 17 (Try.f133.body.getD .skip) = some c_laws_toGateLedger := by kernel_rfl

theorem toGateLedger : ToLOk Try.prog 133 shGateLedger := by
  rintro ts σ ht h1
  obtain ⟨n0, n1, n2, n3, rfl, b0, b1, b2, b3⟩ := isGateLedger ht
  rw [sizeGateLedger] at h1
  refine acalls_of Try.func133 (by decide +kernel) (code := Try.f133.body.getD .skip) (n := 17) (c := c_laws_toGateLedger) (rs := [(.cell 2 (some 4))]) rfl rfl k_laws_toGateLedger (by kernel_rfl) (by simp) (fun hσ => ?_)
  simp -implicitDefEqProofs only [c_laws_toGateLedger, S0, S1, S2, S3, S4, S5, S6, S7, S8, S9, S10, S11, S12, S13, S14, S15, S16, S17, opv, opvs, eget, env0, setD, lenStr, lenSl, isNilP, isNilS, putAt, if_true, if_false, reduceCtorEq, Nat.reduceLeDiff, Nat.reduceEqDiff, Nat.reduceSub, Nat.reduceMul, Nat.reduceAdd]
  exact fin_keep (by simp) ⟨_, _, [], rfl, rfl, (OwnL.str (OwnL.str (OwnL.int (OwnL.int OwnL.nil0)))), Wi.nil⟩
theorem toGateLedger_x {n0} {n1} {n2} {n3} (σ : Store) (b0 : n0.length ≤ maxLen) (b1 : n1.length ≤ maxLen) (b2 : (Lit.int .i64 n2).wf = true) (b3 : (Lit.int .i64 n3).wf = true) (hz : n0.length + n1.length ≤ 1048576) : ACalls Try.prog 133 [.agg [.t (.str n0), .t (.str n1), .t (.int .i64 n2), .t (.int .i64 n3)]] σ (ToLR [(.str n0), (.str n1), (.int .i64 n2), (.int .i64 n3)] σ) := by
  have h := toGateLedger [(.str n0), (.str n1), (.int .i64 n2), (.int .i64 n3)] σ (mkGateLedger b0 b1 b2 b3) (by rw [sizeGateLedger]; omega)
  exact h
theorem i_szGateLedgerS : Is Try.prog 75 27 [(.tmp 4)] (tSzS 4 130) := ⟨_, _, Try.func75, by decide +kernel, rfl, rfl, by kernel_rfl, rfl⟩
theorem szGateLedgerS : SzOk Try.prog 75 (.sl 4 shGateLedger) := szS_ok rfl i_szGateLedgerS szGateLedger
theorem i_eqGateLedgerS : Is Try.prog 83 27 [(.tmp 4)] (tEqS 4 136) := ⟨_, _, Try.func83, by decide +kernel, rfl, rfl, by kernel_rfl, rfl⟩
theorem eqGateLedgerS : EqOk Try.prog 83 (.sl 4 shGateLedger) := eqS_ok rfl i_eqGateLedgerS eqGateLedger
theorem i_toGateLedgerS : Is Try.prog 79 23 [(.tmp 2)] (tToS 4 48 133 [.t (.str []), .t (.str []), .t (.int .i64 0), .t (.int .i64 0)]) := ⟨_, _, Try.func79, by decide +kernel, rfl, rfl, by kernel_rfl, rfl⟩
theorem toGateLedgerS : ToOk Try.prog 79 (.sl 4 shGateLedger) := toS_ok 48 [.t (.str []), .t (.str []), .t (.int .i64 0), .t (.int .i64 0)] rfl (by decide) rfl (by decide) i_toGateLedgerS toGateLedger
def shGatePurse : List Sh := [.str, .str, .str, .int .i64, .int .i64]
theorem isGatePurse {ts : List T} (ht : T.isL shGatePurse ts) : ∃ n0 n1 n2 n3 n4, ts = [(.str n0), (.str n1), (.str n2), (.int .i64 n3), (.int .i64 n4)] ∧ n0.length ≤ maxLen ∧ n1.length ≤ maxLen ∧ n2.length ≤ maxLen ∧ (Lit.int .i64 n3).wf = true ∧ (Lit.int .i64 n4).wf = true := by
  simp only [shGatePurse, isL_cons, isL_nil, is_int, is_bool, is_str] at ht
  obtain ⟨_, _, rfl, ⟨n0, rfl, b0⟩, _, _, rfl, ⟨n1, rfl, b1⟩, _, _, rfl, ⟨n2, rfl, b2⟩, _, _, rfl, ⟨n3, rfl, b3⟩, _, _, rfl, ⟨n4, rfl, b4⟩, rfl⟩ := ht
  exact ⟨_, _, _, _, _, rfl, b0, b1, b2, b3, b4⟩
theorem mkGatePurse {n0} {n1} {n2} {n3} {n4} (b0 : n0.length ≤ maxLen) (b1 : n1.length ≤ maxLen) (b2 : n2.length ≤ maxLen) (b3 : (Lit.int .i64 n3).wf = true) (b4 : (Lit.int .i64 n4).wf = true) : T.isL shGatePurse [(.str n0), (.str n1), (.str n2), (.int .i64 n3), (.int .i64 n4)] := by
  simp only [shGatePurse, isL_cons, isL_nil, is_int, is_bool, is_str]
  exact ⟨_, _, rfl, ⟨_, rfl, b0⟩, _, _, rfl, ⟨_, rfl, b1⟩, _, _, rfl, ⟨_, rfl, b2⟩, _, _, rfl, ⟨_, rfl, b3⟩, _, _, rfl, ⟨_, rfl, b4⟩, rfl⟩
theorem sizeGatePurse {n0} {n1} {n2} {n3} {n4} : T.sizeL [(.str n0), (.str n1), (.str n2), (.int .i64 n3), (.int .i64 n4)] = n0.length + n1.length + n2.length := by
  simp only [sizeL_cons, sizeL_nil, size_int, size_bool, size_str]
  try omega
def c_laws_szGatePurse : C := (.seq (.ops [⟨(some 2), none, (.box (.t 0))⟩, ⟨(some 4), none, (.mv (.c (.t (.int .i64 0))))⟩]) (.seq (.ops [⟨(some 5), none, (.mv (.t 1))⟩, ⟨(some 6), none, (.fieldAddr 0 (.t 2))⟩, ⟨(some 7), none, (.load none (.t 6))⟩, ⟨(some 8), none, (.len true (.t 7))⟩, ⟨(some 9), none, (.bin .sub (.t 5) (.t 8))⟩, ⟨(some 1), none, (.mv (.t 9))⟩]) (.seq (.seq (.ops [⟨(some 10), none, (.mv (.t 1))⟩, ⟨(some 11), none, (.bin .lss (.t 10) (.c (.t (.int .i64 0))))⟩]) (.cond (.t 11) (.seq (.ops [⟨(some 4), none, (.mv (.c (.t (.int .i64 (-1)))))⟩]) .ret) .skip)) (.seq (.ops [⟨(some 12), none, (.mv (.t 1))⟩, ⟨(some 13), none, (.fieldAddr 1 (.t 2))⟩, ⟨(some 14), none, (.load none (.t 13))⟩, ⟨(some 15), none, (.len true (.t 14))⟩, ⟨(some 16), none, (.bin .sub (.t 12) (.t 15))⟩, ⟨(some 1), none, (.mv (.t 16))⟩]) (.seq (.seq (.ops [⟨(some 17), none, (.mv (.t 1))⟩, ⟨(some 18), none, (.bin .lss (.t 17) (.c (.t (.int .i64 0))))⟩]) (.cond (.t 18) (.seq (.ops [⟨(some 4), none, (.mv (.c (.t (.int .i64 (-1)))))⟩]) .ret) .skip)) (.seq (.ops [⟨(some 19), none, (.mv (.t 1))⟩, ⟨(some 20), none, (.fieldAddr 2 (.t 2))⟩, ⟨(some 21), none, (.load none (.t 20))⟩, ⟨(some 22), none, (.len true (.t 21))⟩, ⟨(some 23), none, (.bin .sub (.t 19) (.t 22))⟩, ⟨(some 1), none, (.mv (.t 23))⟩]) (.seq (.seq (.ops [⟨(some 24), none, (.mv (.t 1))⟩, ⟨(some 25), none, (.bin .lss (.t 24) (.c (.t (.int .i64 0))))⟩]) (.cond (.t 25) (.seq (.ops [⟨(some 4), none, (.mv (.c (.t (.int .i64 (-1)))))⟩]) .ret) .skip)) (.seq (.ops [⟨(some 26), none, (.mv (.t 1))⟩, ⟨(some 4), none, (.mv (.t 26))⟩]) .ret))))))))
theorem k_laws_szGatePurse : comp Try.prog 27 (Try.f131.body.getD .skip) = some c_laws_szGatePurse := by kernel_rfl

theorem szGatePurse : SzLOk Try.prog 131 shGatePurse := by
  rintro ts left σ ht h0 h1
  obtain ⟨n0, n1, n2, n3, n4, rfl, b0, b1, b2, b3, b4⟩ := isGatePurse ht
  refine acalls_of Try.func131 (by decide +kernel) (code := Try.f131.body.getD .skip) (n := 27) (c := c_laws_szGatePurse) (rs := [(.tmp 4)]) rfl rfl k_laws_szGatePurse (by kernel_rfl) (by simp) (fun hσ => ?_)
  try simp only [maxLen] at *
  have fin : ∀ {n : Int} {τ : Store}, n ≤ left → (0 ≤ n → ((n0.length + n1.length + n2.length : Nat) : Int) + n ≤ left) → retV σ.length (SzR (T.sizeL [(.str n0), (.str n1), (.str n2), (.int .i64 n3), (.int .i64 n4)]) left σ) (σ ++ τ) (some [.t (.int .i64 n)]) := fun h h' => ret_same rfl hσ rfl ⟨⟨_, rfl, h, fun h0 => by have := h' h0; rw [sizeGatePurse]; exact this⟩, rfl⟩
  have w0 : IntKind.i64.wrap (left - n0.length) = left - n0.length := IntWalk.i64_in _ (by omega)
  simp -implicitDefEqProofs only [c_laws_szGatePurse, w0, S0, S1, S2, S3, S4, S5, S6, S7, S8, S9, S10, S11, S12, S13, S14, S15, S16, S17, opv, opvs, eget, env0, setD, lenStr, lenSl, isNilP, isNilS, putAt, if_true, if_false, reduceCtorEq, Nat.reduceLeDiff, Nat.reduceEqDiff, Nat.reduceSub, Nat.reduceMul, Nat.reduceAdd]
  refine cond_split (fun h => ?_) (fun h => ?_)
  · simp -implicitDefEqProofs only [S0, S1, S2, S3, S4, S5, S6, S7, S8, S9, S10, S11, S12, S13, S14, S15, S16, S17, opv, opvs, eget, env0, setD, lenStr, lenSl, isNilP, isNilS, putAt, if_true, if_false, reduceCtorEq, Nat.reduceLeDiff, Nat.reduceEqDiff, Nat.reduceSub, Nat.reduceMul, Nat.reduceAdd]
    simp only [decide_eq_true_eq] at h
    exact fin (by omega) (by omega)
  simp only [decide_eq_false_iff_not, Int.not_lt] at h
  have w1 : IntKind.i64.wrap ((left - n0.length) - n1.length) = (left - n0.length) - n1.length := IntWalk.i64_in _ (by omega)
  simp -implicitDefEqProofs only [w1, S0, S1, S2, S3, S4, S5, S6, S7, S8, S9, S10, S11, S12, S13, S14, S15, S16, S17, opv, opvs, eget, env0, setD, lenStr, lenSl, isNilP, isNilS, putAt, if_true, if_false, reduceCtorEq, Nat.reduceLeDiff, Nat.reduceEqDiff, Nat.reduceSub, Nat.reduceMul, Nat.reduceAdd]
  refine cond_split (fun h => ?_) (fun h => ?_)
  · simp -implicitDefEqProofs only [S0, S1, S2, S3, S4, S5, S6, S7, S8, S9, S10, S11, S12, S13, S14, S15, S16, S17, opv, opvs, eget, env0, setD, lenStr, lenSl, isNilP, isNilS, putAt, if_true, if_false, reduceCtorEq, Nat.reduceLeDiff, Nat.reduceEqDiff, Nat.reduceSub, Nat.reduceMul, Nat.reduceAdd]
    simp only [decide_eq_true_eq] at h
    exact fin (by omega) (by omega)
  simp only [decide_eq_false_iff_not, Int.not_lt] at h
  have w2 : IntKind.i64.wrap (((left - n0.length) - n1.length) - n2.length) = ((left - n0.length) - n1.length) - n2.length := IntWalk.i64_in _ (by omega)
  simp -implicitDefEqProofs only [w2, S0, S1, S2, S3, S4, S5, S6, S7, S8, S9, S10, S11, S12, S13, S14, S15, S16, S17, opv, opvs, eget, env0, setD, lenStr, lenSl, isNilP, isNilS, putAt, if_true, if_false, reduceCtorEq, Nat.reduceLeDiff, Nat.reduceEqDiff, Nat.reduceSub, Nat.reduceMul, Nat.reduceAdd]
  refine cond_split (fun h => ?_) (fun h => ?_)
  · simp -implicitDefEqProofs only [S0, S1, S2, S3, S4, S5, S6, S7, S8, S9, S10, S11, S12, S13, S14, S15, S16, S17, opv, opvs, eget, env0, setD, lenStr, lenSl, isNilP, isNilS, putAt, if_true, if_false, reduceCtorEq, Nat.reduceLeDiff, Nat.reduceEqDiff, Nat.reduceSub, Nat.reduceMul, Nat.reduceAdd]
    simp only [decide_eq_true_eq] at h
    exact fin (by omega) (by omega)
  simp only [decide_eq_false_iff_not, Int.not_lt] at h
  simp -implicitDefEqProofs only [S0, S1, S2, S3, S4, S5, S6, S7, S8, S9, S10, S11, S12, S13, S14, S15, S16, S17, opv, opvs, eget, env0, setD, lenStr, lenSl, isNilP, isNilS, putAt, if_true, if_false, reduceCtorEq, Nat.reduceLeDiff, Nat.reduceEqDiff, Nat.reduceSub, Nat.reduceMul, Nat.reduceAdd]
  exact fin (by omega) (fun _ => by omega)
theorem szGatePurse_x {n0} {n1} {n2} {n3} {n4} (left : Int) (σ : Store) (b0 : n0.length ≤ maxLen) (b1 : n1.length ≤ maxLen) (b2 : n2.length ≤ maxLen) (b3 : (Lit.int .i64 n3).wf = true) (b4 : (Lit.int .i64 n4).wf = true) (h0 : 0 ≤ left) (h1 : left ≤ 1048576) : ACalls Try.prog 131 [.agg [.t (.str n0), .t (.str n1), .t (.str n2), .t (.int .i64 n3), .t (.int .i64 n4)], .t (.int .i64 left)] σ (SzR (T.sizeL [(.str n0), (.str n1), (.str n2), (.int .i64 n3), (.int .i64 n4)]) left σ) := by
  have h := szGatePurse [(.str n0), (.str n1), (.str n2), (.int .i64 n3), (.int .i64 n4)] left σ (mkGatePurse b0 b1 b2 b3 b4) h0 h1
  exact h
def c_laws_eqGatePurse : C := (.seq (.ops [⟨(some 2), none, (.box (.t 0))⟩, ⟨(some 3), none, (.box (.t 1))⟩, ⟨(some 4), none, (.mv (.c (.t (.bool false))))⟩]) (.seq (.seq (.ops [⟨(some 5), none, (.fieldAddr 0 (.t 2))⟩, ⟨(some 6), none, (.load none (.t 5))⟩, ⟨(some 7), none, (.fieldAddr 0 (.t 3))⟩, ⟨(some 8), none, (.load none (.t 7))⟩, ⟨(some 9), none, (.bin .neq (.t 6) (.t 8))⟩]) (.cond (.t 9) (.seq (.ops [⟨(some 4), none, (.mv (.c (.t (.bool false))))⟩]) .ret) .skip)) (.seq (.seq (.ops [⟨(some 10), none, (.fieldAddr 1 (.t 2))⟩, ⟨(some 11), none, (.load none (.t 10))⟩, ⟨(some 12), none, (.fieldAddr 1 (.t 3))⟩, ⟨(some 13), none, (.load none (.t 12))⟩, ⟨(some 14), none, (.bin .neq (.t 11) (.t 13))⟩]) (.cond (.t 14) (.seq (.ops [⟨(some 4), none, (.mv (.c (.t (.bool false))))⟩]) .ret) .skip)) (.seq (.seq (.ops [⟨(some 15), none, (.fieldAddr 2 (.t 2))⟩, ⟨(some 16), none, (.load none (.t 15))⟩, ⟨(some 17), none, (.fieldAddr 2 (.t 3))⟩, ⟨(some 18), none, (.load none (.t 17))⟩, ⟨(some 19), none, (.bin .neq (.t 16) (.t 18))⟩]) (.cond (.t 19) (.seq (.ops [⟨(some 4), none, (.mv (.c (.t (.bool false))))⟩]) .ret) .skip)) (.seq (.seq (.ops [⟨(some 20), none, (.fieldAddr 3 (.t 2))⟩, ⟨(some 21), none, (.load none (.t 20))⟩, ⟨(some 22), none, (.fieldAddr 3 (.t 3))⟩, ⟨(some 23), none, (.load none (.t 22))⟩, ⟨(some 24), none, (.bin .neq (.t 21) (.t 23))⟩]) (.cond (.t 24) (.seq (.ops [⟨(some 4), none, (.mv (.c (.t (.bool false))))⟩]) .ret) .skip)) (.seq (.seq (.ops [⟨(some 25), none, (.fieldAddr 4 (.t 2))⟩, ⟨(some 26), none, (.load none (.t 25))⟩, ⟨(some 27), none, (.fieldAddr 4 (.t 3))⟩, ⟨(some 28), none, (.load none (.t 27))⟩, ⟨(some 29), none, (.bin .neq (.t 26) (.t 28))⟩]) (.cond (.t 29) (.seq (.ops [⟨(some 4), none, (.mv (.c (.t (.bool false))))⟩]) .ret) .skip)) (.seq (.ops [⟨(some 4), none, (.mv (.c (.t (.bool true))))⟩]) .ret)))))))
theorem k_laws_eqGatePurse : comp Try.prog 30 (Try.f137.body.getD .skip) = some c_laws_eqGatePurse := by kernel_rfl

theorem eqGatePurse : EqLOk Try.prog 137 shGatePurse := by
  rintro ts σ ht h1
  obtain ⟨n0, n1, n2, n3, n4, rfl, b0, b1, b2, b3, b4⟩ := isGatePurse ht
  rw [sizeGatePurse] at h1
  refine acalls_of Try.func137 (by decide +kernel) (code := Try.f137.body.getD .skip) (n := 30) (c := c_laws_eqGatePurse) (rs := [(.tmp 4)]) rfl rfl k_laws_eqGatePurse (by kernel_rfl) (by simp) (fun hσ => ?_)
  simp -implicitDefEqProofs only [c_laws_eqGatePurse, ne_self, beq_self_eq_true, S0, S1, S2, S3, S4, S5, S6, S7, S8, S9, S10, S11, S12, S13, S14, S15, S16, S17, opv, opvs, eget, env0, setD, lenStr, lenSl, isNilP, isNilS, putAt, if_true, if_false, reduceCtorEq, Nat.reduceLeDiff, Nat.reduceEqDiff, Nat.reduceSub, Nat.reduceMul, Nat.reduceAdd]
  exact ret_same rfl hσ rfl ⟨rfl, rfl⟩
theorem eqGatePurse_x {n0} {n1} {n2} {n3} {n4} (σ : Store) (b0 : n0.length ≤ maxLen) (b1 : n1.length ≤ maxLen) (b2 : n2.length ≤ maxLen) (b3 : (Lit.int .i64 n3).wf = true) (b4 : (Lit.int .i64 n4).wf = true) (hz : n0.length + n1.length + n2.length ≤ 1099511627776) : ACalls Try.prog 137 [.agg [.t (.str n0), .t (.str n1), .t (.str n2), .t (.int .i64 n3), .t (.int .i64 n4)], .agg [.t (.str n0), .t (.str n1), .t (.str n2), .t (.int .i64 n3), .t (.int .i64 n4)]] σ (TrueR σ) := by
  have h := eqGatePurse [(.str n0), (.str n1), (.str n2), (.int .i64 n3), (.int .i64 n4)] σ (mkGatePurse b0 b1 b2 b3 b4) (by rw [sizeGatePurse]; omega)
  exact h
def c_laws_toGatePurse : C := (.seq (.ops [⟨(some 1), none, (.box (.t 0))⟩, ⟨(some 2), none, (.new [(.t (.str [])), (.t (.str [])), (.t (.str [])), (.t (.int .i64 0)), (.t (.int .i64 0))])⟩]) (.seq (.ops [⟨(some 3), none, (.new [(.t (.str [])), (.t (.str [])), (.t (.str [])), (.t (.int .i64 0)), (.t (.int .i64 0))])⟩]) (.seq (.ops [⟨(some 4), none, (.fieldAddr 0 (.t 1))⟩, ⟨(some 5), none, (.load none (.t 4))⟩, ⟨(some 6), none, (.fieldAddr 0 (.t 3))⟩, ⟨none, none, (.store 1 (.t 6) (.t 5))⟩]) (.seq (.ops [⟨(some 7), none, (.fieldAddr 1 (.t 1))⟩, ⟨(some 8), none, (.load none (.t 7))⟩, ⟨(some 9), none, (.fieldAddr 1 (.t 3))⟩, ⟨none, none, (.store 1 (.t 9) (.t 8))⟩]) (.seq (.ops [⟨(some 10), none, (.fieldAddr 2 (.t 1))⟩, ⟨(some 11), none, (.load none (.t 10))⟩, ⟨(some 12), none, (.fieldAddr 2 (.t 3))⟩, ⟨none, none, (.store 1 (.t 12) (.t 11))⟩]) (.seq (.ops [⟨(some 13), none, (.fieldAddr 3 (.t 1))⟩, ⟨(some 14), none, (.load none (.t 13))⟩, ⟨(some 15), none, (.fieldAddr 3 (.t 3))⟩, ⟨none, none, (.store 1 (.t 15) (.t 14))⟩]) (.seq (.ops [⟨(some 16), none, (.fieldAddr 4 (.t 1))⟩, ⟨(some 17), none, (.load none (.t 16))⟩, ⟨(some 18), none, (.fieldAddr 4 (.t 3))⟩, ⟨none, none, (.store 1 (.t 18) (.t 17))⟩]) (.seq (.ops [⟨(some 19), none, (.load (some 5) (.t 3))⟩, ⟨none, none, (.store 5 (.t 2) (.t 19))⟩]) .ret))))))))
theorem k_laws_toGatePurse : comp Try.prog 20 (Try.f134.body.getD .skip) = some c_laws_toGatePurse := by kernel_rfl

theorem toGatePurse : ToLOk Try.prog 134 shGatePurse := by
  rintro ts σ ht h1
  obtain ⟨n0, n1, n2, n3, n4, rfl, b0, b1, b2, b3, b4⟩ := isGatePurse ht
  rw [sizeGatePurse] at h1
  refine acalls_of Try.func134 (by decide +kernel) (code := Try.f134.body.getD .skip) (n := 20) (c := c_laws_toGatePurse) (rs := [(.cell 2 (some 5))]) rfl rfl k_laws_toGatePurse (by kernel_rfl) (by simp) (fun hσ => ?_)
  simp -implicitDefEqProofs only [c_laws_toGatePurse, S0, S1, S2, S3, S4, S5, S6, S7, S8, S9, S10, S11, S12, S13, S14, S15, S16, S17, opv, opvs, eget, env0, setD, lenStr, lenSl, isNilP, isNilS, putAt, if_true, if_false, reduceCtorEq, Nat.reduceLeDiff, Nat.reduceEqDiff, Nat.reduceSub, Nat.reduceMul, Nat.reduceAdd]
  exact fin_keep (by simp) ⟨_, _, [], rfl, rfl, (OwnL.str (OwnL.str (OwnL.str (OwnL.int (OwnL.int OwnL.nil0))))), Wi.nil⟩
theorem toGatePurse_x {n0} {n1} {n2} {n3} {n4} (σ : Store) (b0 : n0.length ≤ maxLen) (b1 : n1.length ≤ maxLen) (b2 : n2.length ≤ maxLen) (b3 : (Lit.int .i64 n3).wf = true) (b4 : (Lit.int .i64 n4).wf = true) (hz : n0.length + n1.length + n2.length ≤ 1048576) : ACalls Try.prog 134 [.agg [.t (.str n0), .t (.str n1), .t (.str n2), .t (.int .i64 n3), .t (.int .i64 n4)]] σ (ToLR [(.str n0), (.str n1), (.str n2), (.int .i64 n3), (.int .i64 n4)] σ) := by
  have h := toGatePurse [(.str n0), (.str n1), (.str n2), (.int .i64 n3), (.int .i64 n4)] σ (mkGatePurse b0 b1 b2 b3 b4) (by rw [sizeGatePurse]; omega)
  exact h
theorem i_szGatePurseS : Is Try.prog 76 27 [(.tmp 4)] (tSzS 5 131) := ⟨_, _, Try.func76, by decide +kernel, rfl, rfl, by kernel_rfl, rfl⟩
theorem szGatePurseS : SzOk Try.prog 76 (.sl 5 shGatePurse) := szS_ok rfl i_szGatePurseS szGatePurse
theorem i_eqGatePurseS : Is Try.prog 84 27 [(.tmp 4)] (tEqS 5 137) := ⟨_, _, Try.func84, by decide +kernel, rfl, rfl, by kernel_rfl, rfl⟩
theorem eqGatePurseS : EqOk Try.prog 84 (.sl 5 shGatePurse) := eqS_ok rfl i_eqGatePurseS eqGatePurse
theorem i_toGatePurseS : Is Try.prog 80 23 [(.tmp 2)] (tToS 5 64 134 [.t (.str []), .t (.str []), .t (.str []), .t (.int .i64 0), .t (.int .i64 0)]) := ⟨_, _, Try.func80, by decide +kernel, rfl, rfl, by kernel_rfl, rfl⟩
theorem toGatePurseS : ToOk Try.prog 80 (.sl 5 shGatePurse) := toS_ok 64 [.t (.str []), .t (.str []), .t (.str []), .t (.int .i64 0), .t (.int .i64 0)] rfl (by decide) rfl (by decide) i_toGatePurseS toGatePurse
def shGateBook : List Sh := [.int .i64, .int .i64, .int .i64, .sl 7 shGateObject, .sl 7 shGateGrant, .sl 4 shGateLedger, .sl 5 shGatePurse]
theorem isGateBook {ts : List T} (ht : T.isL shGateBook ts) : ∃ n0 n1 n2 n3 n4 n5 n6, ts = [(.int .i64 n0), (.int .i64 n1), (.int .i64 n2), n3, n4, n5, n6] ∧ (Lit.int .i64 n0).wf = true ∧ (Lit.int .i64 n1).wf = true ∧ (Lit.int .i64 n2).wf = true ∧ T.is (.sl 7 shGateObject) n3 ∧ T.is (.sl 7 shGateGrant) n4 ∧ T.is (.sl 4 shGateLedger) n5 ∧ T.is (.sl 5 shGatePurse) n6 := by
  simp only [shGateBook, isL_cons, isL_nil, is_int, is_bool, is_str] at ht
  obtain ⟨_, _, rfl, ⟨n0, rfl, b0⟩, _, _, rfl, ⟨n1, rfl, b1⟩, _, _, rfl, ⟨n2, rfl, b2⟩, n3, _, rfl, b3, n4, _, rfl, b4, n5, _, rfl, b5, n6, _, rfl, b6, rfl⟩ := ht
  exact ⟨_, _, _, _, _, _, _, rfl, b0, b1, b2, b3, b4, b5, b6⟩
theorem mkGateBook {n0} {n1} {n2} {n3} {n4} {n5} {n6} (b0 : (Lit.int .i64 n0).wf = true) (b1 : (Lit.int .i64 n1).wf = true) (b2 : (Lit.int .i64 n2).wf = true) (b3 : T.is (.sl 7 shGateObject) n3) (b4 : T.is (.sl 7 shGateGrant) n4) (b5 : T.is (.sl 4 shGateLedger) n5) (b6 : T.is (.sl 5 shGatePurse) n6) : T.isL shGateBook [(.int .i64 n0), (.int .i64 n1), (.int .i64 n2), n3, n4, n5, n6] := by
  simp only [shGateBook, isL_cons, isL_nil, is_int, is_bool, is_str]
  exact ⟨_, _, rfl, ⟨_, rfl, b0⟩, _, _, rfl, ⟨_, rfl, b1⟩, _, _, rfl, ⟨_, rfl, b2⟩, _, _, rfl, b3, _, _, rfl, b4, _, _, rfl, b5, _, _, rfl, b6, rfl⟩
theorem sizeGateBook {n0} {n1} {n2} {n3} {n4} {n5} {n6} : T.sizeL [(.int .i64 n0), (.int .i64 n1), (.int .i64 n2), n3, n4, n5, n6] = n3.size + n4.size + n5.size + n6.size := by
  simp only [sizeL_cons, sizeL_nil, size_int, size_bool, size_str]
  try omega
def c_laws_szGateBook : C := (.seq (.ops [⟨(some 2), none, (.box (.t 0))⟩, ⟨(some 4), none, (.mv (.c (.t (.int .i64 0))))⟩]) (.seq (.ops [⟨(some 5), none, (.fieldAddr 3 (.t 2))⟩, ⟨(some 6), none, (.load none (.t 5))⟩, ⟨(some 7), none, (.mv (.t 1))⟩, ⟨(some 8), none, (.call (.c (.fn (.func 73) [])) [(.t 6), (.t 7)])⟩, ⟨(some 1), none, (.mv (.t 8))⟩]) (.seq (.seq (.ops [⟨(some 9), none, (.mv (.t 1))⟩, ⟨(some 10), none, (.bin .lss (.t 9) (.c (.t (.int .i64 0))))⟩]) (.cond (.t 10) (.seq (.ops [⟨(some 4), none, (.mv (.c (.t (.int .i64 (-1)))))⟩]) .ret) .skip)) (.seq (.ops [⟨(some 11), none, (.fieldAddr 4 (.t 2))⟩, ⟨(some 12), none, (.load none (.t 11))⟩, ⟨(some 13), none, (.mv (.t 1))⟩, ⟨(some 14), none, (.call (.c (.fn (.func 74) [])) [(.t 12), (.t 13)])⟩, ⟨(some 1), none, (.mv (.t 14))⟩]) (.seq (.seq (.ops [⟨(some 15), none, (.mv (.t 1))⟩, ⟨(some 16), none, (.bin .lss (.t 15) (.c (.t (.int .i64 0))))⟩]) (.cond (.t 16) (.seq (.ops [⟨(some 4), none, (.mv (.c (.t (.int .i64 (-1)))))⟩]) .ret) .skip)) (.seq (.ops [⟨(some 17), none, (.fieldAddr 5 (.t 2))⟩, ⟨(some 18), none, (.load none (.t 17))⟩, ⟨(some 19), none, (.mv (.t 1))⟩, ⟨(some 20), none, (.call (.c (.fn (.func 75) [])) [(.t 18), (.t 19)])⟩, ⟨(some 1), none, (.mv (.t 20))⟩]) (.seq (.seq (.ops [⟨(some 21), none, (.mv (.t 1))⟩, ⟨(some 22), none, (.bin .lss (.t 21) (.c (.t (.int .i64 0))))⟩]) (.cond (.t 22) (.seq (.ops [⟨(some 4), none, (.mv (.c (.t (.int .i64 (-1)))))⟩]) .ret) .skip)) (.seq (.ops [⟨(some 23), none, (.fieldAddr 6 (.t 2))⟩, ⟨(some 24), none, (.load none (.t 23))⟩, ⟨(some 25), none, (.mv (.t 1))⟩, ⟨(some 26), none, (.call (.c (.fn (.func 76) [])) [(.t 24), (.t 25)])⟩, ⟨(some 1), none, (.mv (.t 26))⟩]) (.seq (.seq (.ops [⟨(some 27), none, (.mv (.t 1))⟩, ⟨(some 28), none, (.bin .lss (.t 27) (.c (.t (.int .i64 0))))⟩]) (.cond (.t 28) (.seq (.ops [⟨(some 4), none, (.mv (.c (.t (.int .i64 (-1)))))⟩]) .ret) .skip)) (.seq (.ops [⟨(some 29), none, (.mv (.t 1))⟩, ⟨(some 4), none, (.mv (.t 29))⟩]) .ret))))))))))
theorem k_laws_szGateBook : comp Try.prog 30 (Try.f21.body.getD .skip) = some c_laws_szGateBook := by kernel_rfl

theorem szGateBook : SzLOk Try.prog 21 shGateBook := by
  rintro ts left σ ht h0 h1
  obtain ⟨n0, n1, n2, n3, n4, n5, n6, rfl, b0, b1, b2, b3, b4, b5, b6⟩ := isGateBook ht
  refine acalls_of Try.func21 (by decide +kernel) (code := Try.f21.body.getD .skip) (n := 30) (c := c_laws_szGateBook) (rs := [(.tmp 4)]) rfl rfl k_laws_szGateBook (by kernel_rfl) (by simp) (fun hσ => ?_)
  try simp only [maxLen] at *
  have fin : ∀ {n : Int} {τ : Store}, n ≤ left → (0 ≤ n → ((n3.size + n4.size + n5.size + n6.size : Nat) : Int) + n ≤ left) → retV σ.length (SzR (T.sizeL [(.int .i64 n0), (.int .i64 n1), (.int .i64 n2), n3, n4, n5, n6]) left σ) (σ ++ τ) (some [.t (.int .i64 n)]) := fun h h' => ret_same rfl hσ rfl ⟨⟨_, rfl, h, fun h0 => by have := h' h0; rw [sizeGateBook]; exact this⟩, rfl⟩
  simp -implicitDefEqProofs only [c_laws_szGateBook, S0, S1, S2, S3, S4, S5, S6, S7, S8, S9, S10, S11, S12, S13, S14, S15, S16, S17, opv, opvs, eget, env0, setD, lenStr, lenSl, isNilP, isNilS, putAt, if_true, if_false, reduceCtorEq, Nat.reduceLeDiff, Nat.reduceEqDiff, Nat.reduceSub, Nat.reduceMul, Nat.reduceAdd]
  refine call_by (by rw [List.append_nil]; exact szGateObjectS n3 left _ b3 (by omega) (by omega)) ?_
  rintro r σ' ⟨⟨m3, rfl, hm3, hs3⟩, rfl⟩
  try simp only [sizeGateBook] at hs3
  simp -implicitDefEqProofs only [S0, S1, S2, S3, S4, S5, S6, S7, S8, S9, S10, S11, S12, S13, S14, S15, S16, S17, opv, opvs, eget, env0, setD, lenStr, lenSl, isNilP, isNilS, putAt, if_true, if_false, reduceCtorEq, Nat.reduceLeDiff, Nat.reduceEqDiff, Nat.reduceSub, Nat.reduceMul, Nat.reduceAdd]
  refine cond_split (fun h => ?_) (fun h => ?_)
  · simp -implicitDefEqProofs only [S0, S1, S2, S3, S4, S5, S6, S7, S8, S9, S10, S11, S12, S13, S14, S15, S16, S17, opv, opvs, eget, env0, setD, lenStr, lenSl, isNilP, isNilS, putAt, if_true, if_false, reduceCtorEq, Nat.reduceLeDiff, Nat.reduceEqDiff, Nat.reduceSub, Nat.reduceMul, Nat.reduceAdd]
    simp only [decide_eq_true_eq] at h
    exact fin (by omega) (by omega)
  simp only [decide_eq_false_iff_not, Int.not_lt] at h
  replace hs3 := hs3 h
  simp -implicitDefEqProofs only [S0, S1, S2, S3, S4, S5, S6, S7, S8, S9, S10, S11, S12, S13, S14, S15, S16, S17, opv, opvs, eget, env0, setD, lenStr, lenSl, isNilP, isNilS, putAt, if_true, if_false, reduceCtorEq, Nat.reduceLeDiff, Nat.reduceEqDiff, Nat.reduceSub, Nat.reduceMul, Nat.reduceAdd]
  refine call_by (by rw [List.append_nil]; exact szGateGrantS n4 m3 _ b4 (by omega) (by omega)) ?_
  rintro r σ' ⟨⟨m4, rfl, hm4, hs4⟩, rfl⟩
  try simp only [sizeGateBook] at hs4
  simp -implicitDefEqProofs only [S0, S1, S2, S3, S4, S5, S6, S7, S8, S9, S10, S11, S12, S13, S14, S15, S16, S17, opv, opvs, eget, env0, setD, lenStr, lenSl, isNilP, isNilS, putAt, if_true, if_false, reduceCtorEq, Nat.reduceLeDiff, Nat.reduceEqDiff, Nat.reduceSub, Nat.reduceMul, Nat.reduceAdd]
  refine cond_split (fun h => ?_) (fun h => ?_)
  · simp -implicitDefEqProofs only [S0, S1, S2, S3, S4, S5, S6, S7, S8, S9, S10, S11, S12, S13, S14, S15, S16, S17, opv, opvs, eget, env0, setD, lenStr, lenSl, isNilP, isNilS, putAt, if_true, if_false, reduceCtorEq, Nat.reduceLeDiff, Nat.reduceEqDiff, Nat.reduceSub, Nat.reduceMul, Nat.reduceAdd]
    simp only [decide_eq_true_eq] at h
    exact fin (by omega) (by omega)
  simp only [decide_eq_false_iff_not, Int.not_lt] at h
  replace hs4 := hs4 h
  simp -implicitDefEqProofs only [S0, S1, S2, S3, S4, S5, S6, S7, S8, S9, S10, S11, S12, S13, S14, S15, S16, S17, opv, opvs, eget, env0, setD, lenStr, lenSl, isNilP, isNilS, putAt, if_true, if_false, reduceCtorEq, Nat.reduceLeDiff, Nat.reduceEqDiff, Nat.reduceSub, Nat.reduceMul, Nat.reduceAdd]
  refine call_by (by rw [List.append_nil]; exact szGateLedgerS n5 m4 _ b5 (by omega) (by omega)) ?_
  rintro r σ' ⟨⟨m5, rfl, hm5, hs5⟩, rfl⟩
  try simp only [sizeGateBook] at hs5
  simp -implicitDefEqProofs only [S0, S1, S2, S3, S4, S5, S6, S7, S8, S9, S10, S11, S12, S13, S14, S15, S16, S17, opv, opvs, eget, env0, setD, lenStr, lenSl, isNilP, isNilS, putAt, if_true, if_false, reduceCtorEq, Nat.reduceLeDiff, Nat.reduceEqDiff, Nat.reduceSub, Nat.reduceMul, Nat.reduceAdd]
  refine cond_split (fun h => ?_) (fun h => ?_)
  · simp -implicitDefEqProofs only [S0, S1, S2, S3, S4, S5, S6, S7, S8, S9, S10, S11, S12, S13, S14, S15, S16, S17, opv, opvs, eget, env0, setD, lenStr, lenSl, isNilP, isNilS, putAt, if_true, if_false, reduceCtorEq, Nat.reduceLeDiff, Nat.reduceEqDiff, Nat.reduceSub, Nat.reduceMul, Nat.reduceAdd]
    simp only [decide_eq_true_eq] at h
    exact fin (by omega) (by omega)
  simp only [decide_eq_false_iff_not, Int.not_lt] at h
  replace hs5 := hs5 h
  simp -implicitDefEqProofs only [S0, S1, S2, S3, S4, S5, S6, S7, S8, S9, S10, S11, S12, S13, S14, S15, S16, S17, opv, opvs, eget, env0, setD, lenStr, lenSl, isNilP, isNilS, putAt, if_true, if_false, reduceCtorEq, Nat.reduceLeDiff, Nat.reduceEqDiff, Nat.reduceSub, Nat.reduceMul, Nat.reduceAdd]
  refine call_by (by rw [List.append_nil]; exact szGatePurseS n6 m5 _ b6 (by omega) (by omega)) ?_
  rintro r σ' ⟨⟨m6, rfl, hm6, hs6⟩, rfl⟩
  try simp only [sizeGateBook] at hs6
  simp -implicitDefEqProofs only [S0, S1, S2, S3, S4, S5, S6, S7, S8, S9, S10, S11, S12, S13, S14, S15, S16, S17, opv, opvs, eget, env0, setD, lenStr, lenSl, isNilP, isNilS, putAt, if_true, if_false, reduceCtorEq, Nat.reduceLeDiff, Nat.reduceEqDiff, Nat.reduceSub, Nat.reduceMul, Nat.reduceAdd]
  refine cond_split (fun h => ?_) (fun h => ?_)
  · simp -implicitDefEqProofs only [S0, S1, S2, S3, S4, S5, S6, S7, S8, S9, S10, S11, S12, S13, S14, S15, S16, S17, opv, opvs, eget, env0, setD, lenStr, lenSl, isNilP, isNilS, putAt, if_true, if_false, reduceCtorEq, Nat.reduceLeDiff, Nat.reduceEqDiff, Nat.reduceSub, Nat.reduceMul, Nat.reduceAdd]
    simp only [decide_eq_true_eq] at h
    exact fin (by omega) (by omega)
  simp only [decide_eq_false_iff_not, Int.not_lt] at h
  replace hs6 := hs6 h
  simp -implicitDefEqProofs only [S0, S1, S2, S3, S4, S5, S6, S7, S8, S9, S10, S11, S12, S13, S14, S15, S16, S17, opv, opvs, eget, env0, setD, lenStr, lenSl, isNilP, isNilS, putAt, if_true, if_false, reduceCtorEq, Nat.reduceLeDiff, Nat.reduceEqDiff, Nat.reduceSub, Nat.reduceMul, Nat.reduceAdd]
  exact fin (by omega) (fun _ => by omega)
theorem szGateBook_x {n0} {n1} {n2} {n3} {n4} {n5} {n6} (left : Int) (σ : Store) (b0 : (Lit.int .i64 n0).wf = true) (b1 : (Lit.int .i64 n1).wf = true) (b2 : (Lit.int .i64 n2).wf = true) (b3 : T.is (.sl 7 shGateObject) n3) (b4 : T.is (.sl 7 shGateGrant) n4) (b5 : T.is (.sl 4 shGateLedger) n5) (b6 : T.is (.sl 5 shGatePurse) n6) (h0 : 0 ≤ left) (h1 : left ≤ 1048576) : ACalls Try.prog 21 [.agg [.t (.int .i64 n0), .t (.int .i64 n1), .t (.int .i64 n2), .t n3, .t n4, .t n5, .t n6], .t (.int .i64 left)] σ (SzR (T.sizeL [(.int .i64 n0), (.int .i64 n1), (.int .i64 n2), n3, n4, n5, n6]) left σ) := by
  have h := szGateBook [(.int .i64 n0), (.int .i64 n1), (.int .i64 n2), n3, n4, n5, n6] left σ (mkGateBook b0 b1 b2 b3 b4 b5 b6) h0 h1
  exact h
def c_laws_eqGateBook : C := (.seq (.ops [⟨(some 2), none, (.box (.t 0))⟩, ⟨(some 3), none, (.box (.t 1))⟩, ⟨(some 4), none, (.mv (.c (.t (.bool false))))⟩]) (.seq (.seq (.ops [⟨(some 5), none, (.fieldAddr 0 (.t 2))⟩, ⟨(some 6), none, (.load none (.t 5))⟩, ⟨(some 7), none, (.fieldAddr 0 (.t 3))⟩, ⟨(some 8), none, (.load none (.t 7))⟩, ⟨(some 9), none, (.bin .neq (.t 6) (.t 8))⟩]) (.cond (.t 9) (.seq (.ops [⟨(some 4), none, (.mv (.c (.t (.bool false))))⟩]) .ret) .skip)) (.seq (.seq (.ops [⟨(some 10), none, (.fieldAddr 1 (.t 2))⟩, ⟨(some 11), none, (.load none (.t 10))⟩, ⟨(some 12), none, (.fieldAddr 1 (.t 3))⟩, ⟨(some 13), none, (.load none (.t 12))⟩, ⟨(some 14), none, (.bin .neq (.t 11) (.t 13))⟩]) (.cond (.t 14) (.seq (.ops [⟨(some 4), none, (.mv (.c (.t (.bool false))))⟩]) .ret) .skip)) (.seq (.seq (.ops [⟨(some 15), none, (.fieldAddr 2 (.t 2))⟩, ⟨(some 16), none, (.load none (.t 15))⟩, ⟨(some 17), none, (.fieldAddr 2 (.t 3))⟩, ⟨(some 18), none, (.load none (.t 17))⟩, ⟨(some 19), none, (.bin .neq (.t 16) (.t 18))⟩]) (.cond (.t 19) (.seq (.ops [⟨(some 4), none, (.mv (.c (.t (.bool false))))⟩]) .ret) .skip)) (.seq (.seq (.ops [⟨(some 20), none, (.fieldAddr 3 (.t 2))⟩, ⟨(some 21), none, (.load none (.t 20))⟩, ⟨(some 22), none, (.fieldAddr 3 (.t 3))⟩, ⟨(some 23), none, (.load none (.t 22))⟩, ⟨(some 24), none, (.call (.c (.fn (.func 81) [])) [(.t 21), (.t 23)])⟩, ⟨(some 25), none, (.un .not (.t 24))⟩]) (.cond (.t 25) (.seq (.ops [⟨(some 4), none, (.mv (.c (.t (.bool false))))⟩]) .ret) .skip)) (.seq (.seq (.ops [⟨(some 26), none, (.fieldAddr 4 (.t 2))⟩, ⟨(some 27), none, (.load none (.t 26))⟩, ⟨(some 28), none, (.fieldAddr 4 (.t 3))⟩, ⟨(some 29), none, (.load none (.t 28))⟩, ⟨(some 30), none, (.call (.c (.fn (.func 82) [])) [(.t 27), (.t 29)])⟩, ⟨(some 31), none, (.un .not (.t 30))⟩]) (.cond (.t 31) (.seq (.ops [⟨(some 4), none, (.mv (.c (.t (.bool false))))⟩]) .ret) .skip)) (.seq (.seq (.ops [⟨(some 32), none, (.fieldAddr 5 (.t 2))⟩, ⟨(some 33), none, (.load none (.t 32))⟩, ⟨(some 34), none, (.fieldAddr 5 (.t 3))⟩, ⟨(some 35), none, (.load none (.t 34))⟩, ⟨(some 36), none, (.call (.c (.fn (.func 83) [])) [(.t 33), (.t 35)])⟩, ⟨(some 37), none, (.un .not (.t 36))⟩]) (.cond (.t 37) (.seq (.ops [⟨(some 4), none, (.mv (.c (.t (.bool false))))⟩]) .ret) .skip)) (.seq (.seq (.ops [⟨(some 38), none, (.fieldAddr 6 (.t 2))⟩, ⟨(some 39), none, (.load none (.t 38))⟩, ⟨(some 40), none, (.fieldAddr 6 (.t 3))⟩, ⟨(some 41), none, (.load none (.t 40))⟩, ⟨(some 42), none, (.call (.c (.fn (.func 84) [])) [(.t 39), (.t 41)])⟩, ⟨(some 43), none, (.un .not (.t 42))⟩]) (.cond (.t 43) (.seq (.ops [⟨(some 4), none, (.mv (.c (.t (.bool false))))⟩]) .ret) .skip)) (.seq (.ops [⟨(some 4), none, (.mv (.c (.t (.bool true))))⟩]) .ret)))))))))
theorem k_laws_eqGateBook : comp Try.prog 44 (Try.f27.body.getD .skip) = some c_laws_eqGateBook := by kernel_rfl

theorem eqGateBook : EqLOk Try.prog 27 shGateBook := by
  rintro ts σ ht h1
  obtain ⟨n0, n1, n2, n3, n4, n5, n6, rfl, b0, b1, b2, b3, b4, b5, b6⟩ := isGateBook ht
  rw [sizeGateBook] at h1
  refine acalls_of Try.func27 (by decide +kernel) (code := Try.f27.body.getD .skip) (n := 44) (c := c_laws_eqGateBook) (rs := [(.tmp 4)]) rfl rfl k_laws_eqGateBook (by kernel_rfl) (by simp) (fun hσ => ?_)
  simp -implicitDefEqProofs only [c_laws_eqGateBook, ne_self, beq_self_eq_true, S0, S1, S2, S3, S4, S5, S6, S7, S8, S9, S10, S11, S12, S13, S14, S15, S16, S17, opv, opvs, eget, env0, setD, lenStr, lenSl, isNilP, isNilS, putAt, if_true, if_false, reduceCtorEq, Nat.reduceLeDiff, Nat.reduceEqDiff, Nat.reduceSub, Nat.reduceMul, Nat.reduceAdd]
  refine call_pure (eqGateObjectS n3 _ b3 (by omega)) ?_
  simp -implicitDefEqProofs only [ne_self, beq_self_eq_true, S0, S1, S2, S3, S4, S5, S6, S7, S8, S9, S10, S11, S12, S13, S14, S15, S16, S17, opv, opvs, eget, env0, setD, lenStr, lenSl, isNilP, isNilS, putAt, if_true, if_false, reduceCtorEq, Nat.reduceLeDiff, Nat.reduceEqDiff, Nat.reduceSub, Nat.reduceMul, Nat.reduceAdd]
  refine call_pure (eqGateGrantS n4 _ b4 (by omega)) ?_
  simp -implicitDefEqProofs only [ne_self, beq_self_eq_true, S0, S1, S2, S3, S4, S5, S6, S7, S8, S9, S10, S11, S12, S13, S14, S15, S16, S17, opv, opvs, eget, env0, setD, lenStr, lenSl, isNilP, isNilS, putAt, if_true, if_false, reduceCtorEq, Nat.reduceLeDiff, Nat.reduceEqDiff, Nat.reduceSub, Nat.reduceMul, Nat.reduceAdd]
  refine call_pure (eqGateLedgerS n5 _ b5 (by omega)) ?_
  simp -implicitDefEqProofs only [ne_self, beq_self_eq_true, S0, S1, S2, S3, S4, S5, S6, S7, S8, S9, S10, S11, S12, S13, S14, S15, S16, S17, opv, opvs, eget, env0, setD, lenStr, lenSl, isNilP, isNilS, putAt, if_true, if_false, reduceCtorEq, Nat.reduceLeDiff, Nat.reduceEqDiff, Nat.reduceSub, Nat.reduceMul, Nat.reduceAdd]
  refine call_pure (eqGatePurseS n6 _ b6 (by omega)) ?_
  simp -implicitDefEqProofs only [ne_self, beq_self_eq_true, S0, S1, S2, S3, S4, S5, S6, S7, S8, S9, S10, S11, S12, S13, S14, S15, S16, S17, opv, opvs, eget, env0, setD, lenStr, lenSl, isNilP, isNilS, putAt, if_true, if_false, reduceCtorEq, Nat.reduceLeDiff, Nat.reduceEqDiff, Nat.reduceSub, Nat.reduceMul, Nat.reduceAdd]
  exact ret_same rfl hσ rfl ⟨rfl, rfl⟩
theorem eqGateBook_x {n0} {n1} {n2} {n3} {n4} {n5} {n6} (σ : Store) (b0 : (Lit.int .i64 n0).wf = true) (b1 : (Lit.int .i64 n1).wf = true) (b2 : (Lit.int .i64 n2).wf = true) (b3 : T.is (.sl 7 shGateObject) n3) (b4 : T.is (.sl 7 shGateGrant) n4) (b5 : T.is (.sl 4 shGateLedger) n5) (b6 : T.is (.sl 5 shGatePurse) n6) (hz : n3.size + n4.size + n5.size + n6.size ≤ 1099511627776) : ACalls Try.prog 27 [.agg [.t (.int .i64 n0), .t (.int .i64 n1), .t (.int .i64 n2), .t n3, .t n4, .t n5, .t n6], .agg [.t (.int .i64 n0), .t (.int .i64 n1), .t (.int .i64 n2), .t n3, .t n4, .t n5, .t n6]] σ (TrueR σ) := by
  have h := eqGateBook [(.int .i64 n0), (.int .i64 n1), (.int .i64 n2), n3, n4, n5, n6] σ (mkGateBook b0 b1 b2 b3 b4 b5 b6) (by rw [sizeGateBook]; omega)
  exact h
def c_laws_toGateBook : C := (.seq (.ops [⟨(some 1), none, (.box (.t 0))⟩, ⟨(some 2), none, (.new [(.t (.int .i64 0)), (.t (.int .i64 0)), (.t (.int .i64 0)), .nils, .nils, .nils, .nils])⟩]) (.seq (.ops [⟨(some 3), none, (.new [(.t (.int .i64 0)), (.t (.int .i64 0)), (.t (.int .i64 0)), .nils, .nils, .nils, .nils])⟩]) (.seq (.ops [⟨(some 4), none, (.fieldAddr 0 (.t 1))⟩, ⟨(some 5), none, (.load none (.t 4))⟩, ⟨(some 6), none, (.fieldAddr 0 (.t 3))⟩, ⟨none, none, (.store 1 (.t 6) (.t 5))⟩]) (.seq (.ops [⟨(some 7), none, (.fieldAddr 1 (.t 1))⟩, ⟨(some 8), none, (.load none (.t 7))⟩, ⟨(some 9), none, (.fieldAddr 1 (.t 3))⟩, ⟨none, none, (.store 1 (.t 9) (.t 8))⟩]) (.seq (.ops [⟨(some 10), none, (.fieldAddr 2 (.t 1))⟩, ⟨(some 11), none, (.load none (.t 10))⟩, ⟨(some 12), none, (.fieldAddr 2 (.t 3))⟩, ⟨none, none, (.store 1 (.t 12) (.t 11))⟩]) (.seq (.ops [⟨(some 13), none, (.fieldAddr 3 (.t 1))⟩, ⟨(some 14), none, (.load none (.t 13))⟩, ⟨(some 15), none, (.call (.c (.fn (.func 77) [])) [(.t 14)])⟩, ⟨(some 16), none, (.fieldAddr 3 (.t 3))⟩, ⟨none, none, (.store 1 (.t 16) (.t 15))⟩]) (.seq (.ops [⟨(some 17), none, (.fieldAddr 4 (.t 1))⟩, ⟨(some 18), none, (.load none (.t 17))⟩, ⟨(some 19), none, (.call (.c (.fn (.func 78) [])) [(.t 18)])⟩, ⟨(some 20), none, (.fieldAddr 4 (.t 3))⟩, ⟨none, none, (.store 1 (.t 20) (.t 19))⟩]) (.seq (.ops [⟨(some 21), none, (.fieldAddr 5 (.t 1))⟩, ⟨(some 22), none, (.load none (.t 21))⟩, ⟨(some 23), none, (.call (.c (.fn (.func 79) [])) [(.t 22)])⟩, ⟨(some 24), none, (.fieldAddr 5 (.t 3))⟩, ⟨none, none, (.store 1 (.t 24) (.t 23))⟩]) (.seq (.ops [⟨(some 25), none, (.fieldAddr 6 (.t 1))⟩, ⟨(some 26), none, (.load none (.t 25))⟩, ⟨(some 27), none, (.call (.c (.fn (.func 80) [])) [(.t 26)])⟩, ⟨(some 28), none, (.fieldAddr 6 (.t 3))⟩, ⟨none, none, (.store 1 (.t 28) (.t 27))⟩]) (.seq (.ops [⟨(some 29), none, (.load (some 7) (.t 3))⟩, ⟨none, none, (.store 7 (.t 2) (.t 29))⟩]) .ret))))))))))
theorem k_laws_toGateBook : comp Try.prog 30 (Try.f24.body.getD .skip) = some c_laws_toGateBook := by kernel_rfl

theorem toGateBook : ToLOk Try.prog 24 shGateBook := by
  rintro ts σ ht h1
  obtain ⟨n0, n1, n2, n3, n4, n5, n6, rfl, b0, b1, b2, b3, b4, b5, b6⟩ := isGateBook ht
  rw [sizeGateBook] at h1
  refine acalls_of Try.func24 (by decide +kernel) (code := Try.f24.body.getD .skip) (n := 30) (c := c_laws_toGateBook) (rs := [(.cell 2 (some 7))]) rfl rfl k_laws_toGateBook (by kernel_rfl) (by simp) (fun hσ => ?_)
  simp -implicitDefEqProofs only [c_laws_toGateBook, S0, S1, S2, S3, S4, S5, S6, S7, S8, S9, S10, S11, S12, S13, S14, S15, S16, S17, opv, opvs, eget, env0, setD, lenStr, lenSl, isNilP, isNilS, putAt, if_true, if_false, reduceCtorEq, Nat.reduceLeDiff, Nat.reduceEqDiff, Nat.reduceSub, Nat.reduceMul, Nat.reduceAdd]
  refine call_by (by rw [List.append_nil]; exact toGateObjectS n3 _ b3 (by omega)) ?_
  rintro u3 σ' ⟨τ3, j3, rfl, o3, w3⟩
  have e3 := o3.one
  simp -implicitDefEqProofs only [one_cells e3, e3, S0, S1, S2, S3, S4, S5, S6, S7, S8, S9, S10, S11, S12, S13, S14, S15, S16, S17, opv, opvs, eget, env0, setD, lenStr, lenSl, isNilP, isNilS, putAt, if_true, if_false, reduceCtorEq, Nat.reduceLeDiff, Nat.reduceEqDiff, Nat.reduceSub, Nat.reduceMul, Nat.reduceAdd]
  refine call_by (by rw [List.append_nil]; exact toGateGrantS n4 _ b4 (by omega)) ?_
  rintro u4 σ' ⟨τ4, j4, rfl, o4, w4⟩
  have e4 := o4.one
  simp -implicitDefEqProofs only [one_cells e4, e3, e4, S0, S1, S2, S3, S4, S5, S6, S7, S8, S9, S10, S11, S12, S13, S14, S15, S16, S17, opv, opvs, eget, env0, setD, lenStr, lenSl, isNilP, isNilS, putAt, if_true, if_false, reduceCtorEq, Nat.reduceLeDiff, Nat.reduceEqDiff, Nat.reduceSub, Nat.reduceMul, Nat.reduceAdd]
  refine call_by (by rw [List.append_nil]; exact toGateLedgerS n5 _ b5 (by omega)) ?_
  rintro u5 σ' ⟨τ5, j5, rfl, o5, w5⟩
  have e5 := o5.one
  simp -implicitDefEqProofs only [one_cells e5, e3, e4, e5, S0, S1, S2, S3, S4, S5, S6, S7, S8, S9, S10, S11, S12, S13, S14, S15, S16, S17, opv, opvs, eget, env0, setD, lenStr, lenSl, isNilP, isNilS, putAt, if_true, if_false, reduceCtorEq, Nat.reduceLeDiff, Nat.reduceEqDiff, Nat.reduceSub, Nat.reduceMul, Nat.reduceAdd]
  refine call_by (by rw [List.append_nil]; exact toGatePurseS n6 _ b6 (by omega)) ?_
  rintro u6 σ' ⟨τ6, j6, rfl, o6, w6⟩
  have e6 := o6.one
  simp -implicitDefEqProofs only [one_cells e6, e3, e4, e5, e6, S0, S1, S2, S3, S4, S5, S6, S7, S8, S9, S10, S11, S12, S13, S14, S15, S16, S17, opv, opvs, eget, env0, setD, lenStr, lenSl, isNilP, isNilS, putAt, if_true, if_false, reduceCtorEq, Nat.reduceLeDiff, Nat.reduceEqDiff, Nat.reduceSub, Nat.reduceMul, Nat.reduceAdd]
  refine fin_keep (by simp) ⟨_, _, (j3 ++ (j4 ++ (j5 ++ (j6 ++ [])))), rfl, rfl, (OwnL.int (OwnL.int (OwnL.int (OwnL.lst (own_pre (A := [_, _, _]) (A' := [_, _, _]) (B := τ3) (B' := (τ3 ++ (τ4 ++ (τ5 ++ τ6)))) o3 w3 (List.append_assoc ..) rfl rfl (by simp) (by simp)) (OwnL.lst (own_pre (A := [_, _, _]) (A' := [_, _, _]) (B := (τ3 ++ τ4)) (B' := (τ3 ++ (τ4 ++ (τ5 ++ τ6)))) o4 w4 (List.append_assoc ..) rfl rfl (by simp) (by simp)) (OwnL.lst (own_pre (A := [_, _, _]) (A' := [_, _, _]) (B := ((τ3 ++ τ4) ++ τ5)) (B' := (τ3 ++ (τ4 ++ (τ5 ++ τ6)))) o5 w5 (List.append_assoc ..) rfl rfl (by simp) (by simp)) (OwnL.lst (own_pre (A := [_, _, _]) (A' := [_, _, _]) (B := ((τ3 ++ (τ4 ++ τ5)) ++ τ6)) (B' := (τ3 ++ (τ4 ++ (τ5 ++ τ6)))) o6 w6 (List.append_assoc ..) rfl rfl (by simp) (by simp)) OwnL.nil0))))))), ?_⟩
  simp only [List.length_append, List.length_cons, List.length_nil] at w3 w4 w5 w6 ⊢
  refine Wi.mono (a := σ.length) ?_ (Nat.le_refl _) (Nat.le_refl _)
  exact wi_more w3 (wi_more w4 (wi_more w5 (wi_last w6 (by omega) (by omega)) (by omega) (by omega)) (by omega) (by omega)) (by omega) (by omega)
theorem toGateBook_x {n0} {n1} {n2} {n3} {n4} {n5} {n6} (σ : Store) (b0 : (Lit.int .i64 n0).wf = true) (b1 : (Lit.int .i64 n1).wf = true) (b2 : (Lit.int .i64 n2).wf = true) (b3 : T.is (.sl 7 shGateObject) n3) (b4 : T.is (.sl 7 shGateGrant) n4) (b5 : T.is (.sl 4 shGateLedger) n5) (b6 : T.is (.sl 5 shGatePurse) n6) (hz : n3.size + n4.size + n5.size + n6.size ≤ 1048576) : ACalls Try.prog 24 [.agg [.t (.int .i64 n0), .t (.int .i64 n1), .t (.int .i64 n2), .t n3, .t n4, .t n5, .t n6]] σ (ToLR [(.int .i64 n0), (.int .i64 n1), (.int .i64 n2), n3, n4, n5, n6] σ) := by
  have h := toGateBook [(.int .i64 n0), (.int .i64 n1), (.int .i64 n2), n3, n4, n5, n6] σ (mkGateBook b0 b1 b2 b3 b4 b5 b6) (by rw [sizeGateBook]; omega)
  exact h
end Go.Proofs.Ytgdmgoidfglobaa.W

end
