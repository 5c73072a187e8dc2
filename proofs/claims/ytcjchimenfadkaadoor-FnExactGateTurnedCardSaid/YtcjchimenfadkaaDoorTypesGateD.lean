/- What the laws' own helpers do with these structs: sizes, copies, comparing (printed by laws.py). Conditions: none. -/
/- The program's structs as Lean structures, their trees (printed by types.py). Conditions: none. -/
import Derived.Test.YtcjchimenfadkaaDoorAb3
import Derived.IntWalk
import Derived.Test.YtcjchimenfadkaaDoorProg
import Derived.KernelRfl
set_option linter.unusedSimpArgs false
set_option linter.unusedVariables false
set_option linter.defProp false

section
open Go Go.Ab
set_option maxHeartbeats 4000000
set_option maxRecDepth 20000
namespace Go.Proofs.YtcjchimenfadkaaDoor.W
theorem i_szStringS : Is Tryd.prog 48 28 [(.tmp 4)] (tSzStr) := ⟨_, _, Tryd.func48, by decide +kernel, rfl, rfl, by kernel_rfl, rfl⟩
theorem szStringS : SzOk Tryd.prog 48 (.sl 1 [.str]) := szStr_ok i_szStringS
theorem i_szIntS : Is Tryd.prog 36 12 [(.tmp 4)] (tSzInt) := ⟨_, _, Tryd.func36, by decide +kernel, rfl, rfl, by kernel_rfl, rfl⟩
theorem szIntS : SzOk Tryd.prog 36 (.sl 1 [.int .i64]) := szInt_ok i_szIntS
theorem i_eqStringS : Is Tryd.prog 57 26 [(.tmp 4)] (tEq1) := ⟨_, _, Tryd.func57, by decide +kernel, rfl, rfl, by kernel_rfl, rfl⟩
theorem eqStringS : EqOk Tryd.prog 57 (.sl 1 [.str]) := eqStr_ok i_eqStringS
theorem i_eqIntS : Is Tryd.prog 46 26 [(.tmp 4)] (tEq1) := ⟨_, _, Tryd.func46, by decide +kernel, rfl, rfl, by kernel_rfl, rfl⟩
theorem eqIntS : EqOk Tryd.prog 46 (.sl 1 [.int .i64]) := eqInt_ok i_eqIntS
theorem i_toStringS : Is Tryd.prog 52 22 [(.tmp 2)] (tTo1 16 [.t (.str [])]) := ⟨_, _, Tryd.func52, by decide +kernel, rfl, rfl, by kernel_rfl, rfl⟩
theorem toStringS : ToOk Tryd.prog 52 (.sl 1 [.str]) := to1_ok 16 [.t (.str [])] sc_str rfl (by decide) i_toStringS
theorem i_toIntS : Is Tryd.prog 41 22 [(.tmp 2)] (tTo1 8 [.t (.int .i64 0)]) := ⟨_, _, Tryd.func41, by decide +kernel, rfl, rfl, by kernel_rfl, rfl⟩
theorem toIntS : ToOk Tryd.prog 41 (.sl 1 [.int .i64]) := to1_ok 8 [.t (.int .i64 0)] sc_int rfl (by decide) i_toIntS
def shGateTeam : List Sh := [.str, .str]
theorem isGateTeam {ts : List T} (ht : T.isL shGateTeam ts) : ∃ n0 n1, ts = [(.str n0), (.str n1)] ∧ n0.length ≤ maxLen ∧ n1.length ≤ maxLen := by
  simp only [shGateTeam, isL_cons, isL_nil, is_int, is_bool, is_str] at ht
  obtain ⟨_, _, rfl, ⟨n0, rfl, b0⟩, _, _, rfl, ⟨n1, rfl, b1⟩, rfl⟩ := ht
  exact ⟨_, _, rfl, b0, b1⟩
theorem mkGateTeam {n0} {n1} (b0 : n0.length ≤ maxLen) (b1 : n1.length ≤ maxLen) : T.isL shGateTeam [(.str n0), (.str n1)] := by
  simp only [shGateTeam, isL_cons, isL_nil, is_int, is_bool, is_str]
  exact ⟨_, _, rfl, ⟨_, rfl, b0⟩, _, _, rfl, ⟨_, rfl, b1⟩, rfl⟩
theorem sizeGateTeam {n0} {n1} : T.sizeL [(.str n0), (.str n1)] = n0.length + n1.length := by
  simp only [sizeL_cons, sizeL_nil, size_int, size_bool, size_str]
  try omega
def c_laws_szGateTeam : C := (.seq (.ops [⟨(some 2), none, (.box (.t 0))⟩, ⟨(some 4), none, (.mv (.c (.t (.int .i64 0))))⟩]) (.seq (.ops [⟨(some 5), none, (.mv (.t 1))⟩, ⟨(some 6), none, (.fieldAddr 0 (.t 2))⟩, ⟨(some 7), none, (.load none (.t 6))⟩, ⟨(some 8), none, (.len true (.t 7))⟩, ⟨(some 9), none, (.bin .sub (.t 5) (.t 8))⟩, ⟨(some 1), none, (.mv (.t 9))⟩]) (.seq (.seq (.ops [⟨(some 10), none, (.mv (.t 1))⟩, ⟨(some 11), none, (.bin .lss (.t 10) (.c (.t (.int .i64 0))))⟩]) (.cond (.t 11) (.seq (.ops [⟨(some 4), none, (.mv (.c (.t (.int .i64 (-1)))))⟩]) .ret) .skip)) (.seq (.ops [⟨(some 12), none, (.mv (.t 1))⟩, ⟨(some 13), none, (.fieldAddr 1 (.t 2))⟩, ⟨(some 14), none, (.load none (.t 13))⟩, ⟨(some 15), none, (.len true (.t 14))⟩, ⟨(some 16), none, (.bin .sub (.t 12) (.t 15))⟩, ⟨(some 1), none, (.mv (.t 16))⟩]) (.seq (.seq (.ops [⟨(some 17), none, (.mv (.t 1))⟩, ⟨(some 18), none, (.bin .lss (.t 17) (.c (.t (.int .i64 0))))⟩]) (.cond (.t 18) (.seq (.ops [⟨(some 4), none, (.mv (.c (.t (.int .i64 (-1)))))⟩]) .ret) .skip)) (.seq (.ops [⟨(some 19), none, (.mv (.t 1))⟩, ⟨(some 4), none, (.mv (.t 19))⟩]) .ret))))))
theorem k_laws_szGateTeam : comp Tryd.prog 20 (Tryd.f35.body.getD .skip) = some c_laws_szGateTeam := by kernel_rfl

theorem szGateTeam : SzLOk Tryd.prog 35 shGateTeam := by
  rintro ts left σ ht h0 h1
  obtain ⟨n0, n1, rfl, b0, b1⟩ := isGateTeam ht
  refine acalls_of Tryd.func35 (by decide +kernel) (code := Tryd.f35.body.getD .skip) (n := 20) (c := c_laws_szGateTeam) (rs := [(.tmp 4)]) rfl rfl k_laws_szGateTeam (by kernel_rfl) (by simp) (fun hσ => ?_)
  try simp only [maxLen] at *
  have fin : ∀ {n : Int} {τ : Store}, n ≤ left → (0 ≤ n → ((n0.length + n1.length : Nat) : Int) + n ≤ left) → retV σ.length (SzR (T.sizeL [(.str n0), (.str n1)]) left σ) (σ ++ τ) (some [.t (.int .i64 n)]) := fun h h' => ret_same rfl hσ rfl ⟨⟨_, rfl, h, fun h0 => by have := h' h0; rw [sizeGateTeam]; exact this⟩, rfl⟩
  have w0 : IntKind.i64.wrap (left - n0.length) = left - n0.length := IntWalk.i64_in _ (by omega)
  simp -implicitDefEqProofs only [c_laws_szGateTeam, w0, S0, S1, S2, S3, S4, S5, S6, S7, S8, S9, S10, S11, S12, S13, S14, S15, S16, S17, opv, opvs, eget, env0, setD, lenStr, lenSl, isNilP, isNilS, putAt, if_true, if_false, reduceCtorEq, Nat.reduceLeDiff, Nat.reduceEqDiff, Nat.reduceSub, Nat.reduceMul, Nat.reduceAdd]
  refine cond_split (fun h => ?_) (fun h => ?_)
  · simp -implicitDefEqProofs only [S0, S1, S2, S3, S4, S5, S6, S7, S8, S9, S10, S11, S12, S13, S14, S15, S16, S17, opv, opvs, eget, env0, setD, lenStr, lenSl, isNilP, isNilS, putAt, if_true, if_false, reduceCtorEq, Nat.reduceLeDiff, Nat.reduceEqDiff, Nat.reduceSub, Nat.reduceMul, Nat.reduceAdd]
    simp only [decide_eq_true_eq] at h
    exact fin (by omega) (by omega)
  simp only [decide_eq_false_iff_not, Int.not_lt] at h
  have w1 : IntKind.i64.wrap ((left - n0.length) - n1.length) = (left - n0.length) - n1.length := IntWalk.i64_in _ (by omega)
  simp -implicitDefEqProofs only [w1, S0, S1, S2, S3, S4, S5, S6, S7, S8, S9, S10, S11, S12, S13, S14, S15, S16, S17, opv, opvs, eget, env0, setD, lenStr, lenSl, isNilP, isNilS, putAt, if_true, if_false, reduceCtorEq, Nat.reduceLeDiff, Nat.reduceEqDiff, Nat.reduceSub, Nat.reduceMul, Nat.reduceAdd]
  refine cond_split (fun h => ?_) (fun h => ?_)
  · simp -implicitDefEqProofs only [S0, S1, S2, S3, S4, S5, S6, S7, S8, S9, S10, S11, S12, S13, S14, S15, S16, S17, opv, opvs, eget, env0, setD, lenStr, lenSl, isNilP, isNilS, putAt, if_true, if_false, reduceCtorEq, Nat.reduceLeDiff, Nat.reduceEqDiff, Nat.reduceSub, Nat.reduceMul, Nat.reduceAdd]
    simp only [decide_eq_true_eq] at h
    exact fin (by omega) (by omega)
  simp only [decide_eq_false_iff_not, Int.not_lt] at h
  simp -implicitDefEqProofs only [S0, S1, S2, S3, S4, S5, S6, S7, S8, S9, S10, S11, S12, S13, S14, S15, S16, S17, opv, opvs, eget, env0, setD, lenStr, lenSl, isNilP, isNilS, putAt, if_true, if_false, reduceCtorEq, Nat.reduceLeDiff, Nat.reduceEqDiff, Nat.reduceSub, Nat.reduceMul, Nat.reduceAdd]
  exact fin (by omega) (fun _ => by omega)
theorem szGateTeam_x {n0} {n1} (left : Int) (σ : Store) (b0 : n0.length ≤ maxLen) (b1 : n1.length ≤ maxLen) (h0 : 0 ≤ left) (h1 : left ≤ 1048576) : ACalls Tryd.prog 35 [.agg [.t (.str n0), .t (.str n1)], .t (.int .i64 left)] σ (SzR (T.sizeL [(.str n0), (.str n1)]) left σ) := by
  have h := szGateTeam [(.str n0), (.str n1)] left σ (mkGateTeam b0 b1) h0 h1
  exact h
def c_laws_eqGateTeam : C := (.seq (.ops [⟨(some 2), none, (.box (.t 0))⟩, ⟨(some 3), none, (.box (.t 1))⟩, ⟨(some 4), none, (.mv (.c (.t (.bool false))))⟩]) (.seq (.seq (.ops [⟨(some 5), none, (.fieldAddr 0 (.t 2))⟩, ⟨(some 6), none, (.load none (.t 5))⟩, ⟨(some 7), none, (.fieldAddr 0 (.t 3))⟩, ⟨(some 8), none, (.load none (.t 7))⟩, ⟨(some 9), none, (.bin .neq (.t 6) (.t 8))⟩]) (.cond (.t 9) (.seq (.ops [⟨(some 4), none, (.mv (.c (.t (.bool false))))⟩]) .ret) .skip)) (.seq (.seq (.ops [⟨(some 10), none, (.fieldAddr 1 (.t 2))⟩, ⟨(some 11), none, (.load none (.t 10))⟩, ⟨(some 12), none, (.fieldAddr 1 (.t 3))⟩, ⟨(some 13), none, (.load none (.t 12))⟩, ⟨(some 14), none, (.bin .neq (.t 11) (.t 13))⟩]) (.cond (.t 14) (.seq (.ops [⟨(some 4), none, (.mv (.c (.t (.bool false))))⟩]) .ret) .skip)) (.seq (.ops [⟨(some 4), none, (.mv (.c (.t (.bool true))))⟩]) .ret))))
theorem k_laws_eqGateTeam : comp Tryd.prog 15 (Tryd.f45.body.getD .skip) = some c_laws_eqGateTeam := by kernel_rfl

theorem eqGateTeam : EqLOk Tryd.prog 45 shGateTeam := by
  rintro ts σ ht h1
  obtain ⟨n0, n1, rfl, b0, b1⟩ := isGateTeam ht
  rw [sizeGateTeam] at h1
  refine acalls_of Tryd.func45 (by decide +kernel) (code := Tryd.f45.body.getD .skip) (n := 15) (c := c_laws_eqGateTeam) (rs := [(.tmp 4)]) rfl rfl k_laws_eqGateTeam (by kernel_rfl) (by simp) (fun hσ => ?_)
  simp -implicitDefEqProofs only [c_laws_eqGateTeam, ne_self, beq_self_eq_true, S0, S1, S2, S3, S4, S5, S6, S7, S8, S9, S10, S11, S12, S13, S14, S15, S16, S17, opv, opvs, eget, env0, setD, lenStr, lenSl, isNilP, isNilS, putAt, if_true, if_false, reduceCtorEq, Nat.reduceLeDiff, Nat.reduceEqDiff, Nat.reduceSub, Nat.reduceMul, Nat.reduceAdd]
  exact ret_same rfl hσ rfl ⟨rfl, rfl⟩
theorem eqGateTeam_x {n0} {n1} (σ : Store) (b0 : n0.length ≤ maxLen) (b1 : n1.length ≤ maxLen) (hz : n0.length + n1.length ≤ 1099511627776) : ACalls Tryd.prog 45 [.agg [.t (.str n0), .t (.str n1)], .agg [.t (.str n0), .t (.str n1)]] σ (TrueR σ) := by
  have h := eqGateTeam [(.str n0), (.str n1)] σ (mkGateTeam b0 b1) (by rw [sizeGateTeam]; omega)
  exact h
def c_laws_toGateTeam : C := (.seq (.ops [⟨(some 1), none, (.box (.t 0))⟩, ⟨(some 2), none, (.new [(.t (.str [])), (.t (.str []))])⟩]) (.seq (.ops [⟨(some 3), none, (.new [(.t (.str [])), (.t (.str []))])⟩]) (.seq (.ops [⟨(some 4), none, (.fieldAddr 0 (.t 1))⟩, ⟨(some 5), none, (.load none (.t 4))⟩, ⟨(some 6), none, (.fieldAddr 0 (.t 3))⟩, ⟨none, none, (.store 1 (.t 6) (.t 5))⟩]) (.seq (.ops [⟨(some 7), none, (.fieldAddr 1 (.t 1))⟩, ⟨(some 8), none, (.load none (.t 7))⟩, ⟨(some 9), none, (.fieldAddr 1 (.t 3))⟩, ⟨none, none, (.store 1 (.t 9) (.t 8))⟩]) (.seq (.ops [⟨(some 10), none, (.load (some 2) (.t 3))⟩, ⟨none, none, (.store 2 (.t 2) (.t 10))⟩]) .ret)))))
theorem k_laws_toGateTeam : comp Tryd.prog 11 (Tryd.f40.body.getD .skip) = some c_laws_toGateTeam := by kernel_rfl

theorem toGateTeam : ToLOk Tryd.prog 40 shGateTeam := by
  rintro ts σ ht h1
  obtain ⟨n0, n1, rfl, b0, b1⟩ := isGateTeam ht
  rw [sizeGateTeam] at h1
  refine acalls_of Tryd.func40 (by decide +kernel) (code := Tryd.f40.body.getD .skip) (n := 11) (c := c_laws_toGateTeam) (rs := [(.cell 2 (some 2))]) rfl rfl k_laws_toGateTeam (by kernel_rfl) (by simp) (fun hσ => ?_)
  simp -implicitDefEqProofs only [c_laws_toGateTeam, S0, S1, S2, S3, S4, S5, S6, S7, S8, S9, S10, S11, S12, S13, S14, S15, S16, S17, opv, opvs, eget, env0, setD, lenStr, lenSl, isNilP, isNilS, putAt, if_true, if_false, reduceCtorEq, Nat.reduceLeDiff, Nat.reduceEqDiff, Nat.reduceSub, Nat.reduceMul, Nat.reduceAdd]
  exact fin_keep (by simp) ⟨_, _, [], rfl, rfl, (OwnL.str (OwnL.str OwnL.nil0)), Wi.nil⟩
theorem toGateTeam_x {n0} {n1} (σ : Store) (b0 : n0.length ≤ maxLen) (b1 : n1.length ≤ maxLen) (hz : n0.length + n1.length ≤ 1048576) : ACalls Tryd.prog 40 [.agg [.t (.str n0), .t (.str n1)]] σ (ToLR [(.str n0), (.str n1)] σ) := by
  have h := toGateTeam [(.str n0), (.str n1)] σ (mkGateTeam b0 b1) (by rw [sizeGateTeam]; omega)
  exact h
theorem i_szGateTeamS : Is Tryd.prog 7 27 [(.tmp 4)] (tSzS 2 35) := ⟨_, _, Tryd.func7, by decide +kernel, rfl, rfl, by kernel_rfl, rfl⟩
theorem szGateTeamS : SzOk Tryd.prog 7 (.sl 2 shGateTeam) := szS_ok rfl i_szGateTeamS szGateTeam
theorem i_eqGateTeamS : Is Tryd.prog 16 27 [(.tmp 4)] (tEqS 2 45) := ⟨_, _, Tryd.func16, by decide +kernel, rfl, rfl, by kernel_rfl, rfl⟩
theorem eqGateTeamS : EqOk Tryd.prog 16 (.sl 2 shGateTeam) := eqS_ok rfl i_eqGateTeamS eqGateTeam
theorem i_toGateTeamS : Is Tryd.prog 11 23 [(.tmp 2)] (tToS 2 32 40 [.t (.str []), .t (.str [])]) := ⟨_, _, Tryd.func11, by decide +kernel, rfl, rfl, by kernel_rfl, rfl⟩
theorem toGateTeamS : ToOk Tryd.prog 11 (.sl 2 shGateTeam) := toS_ok 32 [.t (.str []), .t (.str [])] rfl (by decide) rfl (by decide) i_toGateTeamS toGateTeam
def shGateRule : List Sh := [.sl 1 [.int .i64], .str, .str, .str]
theorem isGateRule {ts : List T} (ht : T.isL shGateRule ts) : ∃ n0 n1 n2 n3, ts = [n0, (.str n1), (.str n2), (.str n3)] ∧ T.is (.sl 1 [.int .i64]) n0 ∧ n1.length ≤ maxLen ∧ n2.length ≤ maxLen ∧ n3.length ≤ maxLen := by
  simp only [shGateRule, isL_cons, isL_nil, is_int, is_bool, is_str] at ht
  obtain ⟨n0, _, rfl, b0, _, _, rfl, ⟨n1, rfl, b1⟩, _, _, rfl, ⟨n2, rfl, b2⟩, _, _, rfl, ⟨n3, rfl, b3⟩, rfl⟩ := ht
  exact ⟨_, _, _, _, rfl, b0, b1, b2, b3⟩
theorem mkGateRule {n0} {n1} {n2} {n3} (b0 : T.is (.sl 1 [.int .i64]) n0) (b1 : n1.length ≤ maxLen) (b2 : n2.length ≤ maxLen) (b3 : n3.length ≤ maxLen) : T.isL shGateRule [n0, (.str n1), (.str n2), (.str n3)] := by
  simp only [shGateRule, isL_cons, isL_nil, is_int, is_bool, is_str]
  exact ⟨_, _, rfl, b0, _, _, rfl, ⟨_, rfl, b1⟩, _, _, rfl, ⟨_, rfl, b2⟩, _, _, rfl, ⟨_, rfl, b3⟩, rfl⟩
theorem sizeGateRule {n0} {n1} {n2} {n3} : T.sizeL [n0, (.str n1), (.str n2), (.str n3)] = n0.size + n1.length + n2.length + n3.length := by
  simp only [sizeL_cons, sizeL_nil, size_int, size_bool, size_str]
  try omega
def c_laws_szGateRule : C := (.seq (.ops [⟨(some 2), none, (.box (.t 0))⟩, ⟨(some 4), none, (.mv (.c (.t (.int .i64 0))))⟩]) (.seq (.ops [⟨(some 5), none, (.fieldAddr 0 (.t 2))⟩, ⟨(some 6), none, (.load none (.t 5))⟩, ⟨(some 7), none, (.mv (.t 1))⟩, ⟨(some 8), none, (.call (.c (.fn (.func 36) [])) [(.t 6), (.t 7)])⟩, ⟨(some 1), none, (.mv (.t 8))⟩]) (.seq (.seq (.ops [⟨(some 9), none, (.mv (.t 1))⟩, ⟨(some 10), none, (.bin .lss (.t 9) (.c (.t (.int .i64 0))))⟩]) (.cond (.t 10) (.seq (.ops [⟨(some 4), none, (.mv (.c (.t (.int .i64 (-1)))))⟩]) .ret) .skip)) (.seq (.ops [⟨(some 11), none, (.mv (.t 1))⟩, ⟨(some 12), none, (.fieldAddr 1 (.t 2))⟩, ⟨(some 13), none, (.load none (.t 12))⟩, ⟨(some 14), none, (.len true (.t 13))⟩, ⟨(some 15), none, (.bin .sub (.t 11) (.t 14))⟩, ⟨(some 1), none, (.mv (.t 15))⟩]) (.seq (.seq (.ops [⟨(some 16), none, (.mv (.t 1))⟩, ⟨(some 17), none, (.bin .lss (.t 16) (.c (.t (.int .i64 0))))⟩]) (.cond (.t 17) (.seq (.ops [⟨(some 4), none, (.mv (.c (.t (.int .i64 (-1)))))⟩]) .ret) .skip)) (.seq (.ops [⟨(some 18), none, (.mv (.t 1))⟩, ⟨(some 19), none, (.fieldAddr 2 (.t 2))⟩, ⟨(some 20), none, (.load none (.t 19))⟩, ⟨(some 21), none, (.len true (.t 20))⟩, ⟨(some 22), none, (.bin .sub (.t 18) (.t 21))⟩, ⟨(some 1), none, (.mv (.t 22))⟩]) (.seq (.seq (.ops [⟨(some 23), none, (.mv (.t 1))⟩, ⟨(some 24), none, (.bin .lss (.t 23) (.c (.t (.int .i64 0))))⟩]) (.cond (.t 24) (.seq (.ops [⟨(some 4), none, (.mv (.c (.t (.int .i64 (-1)))))⟩]) .ret) .skip)) (.seq (.ops [⟨(some 25), none, (.mv (.t 1))⟩, ⟨(some 26), none, (.fieldAddr 3 (.t 2))⟩, ⟨(some 27), none, (.load none (.t 26))⟩, ⟨(some 28), none, (.len true (.t 27))⟩, ⟨(some 29), none, (.bin .sub (.t 25) (.t 28))⟩, ⟨(some 1), none, (.mv (.t 29))⟩]) (.seq (.seq (.ops [⟨(some 30), none, (.mv (.t 1))⟩, ⟨(some 31), none, (.bin .lss (.t 30) (.c (.t (.int .i64 0))))⟩]) (.cond (.t 31) (.seq (.ops [⟨(some 4), none, (.mv (.c (.t (.int .i64 (-1)))))⟩]) .ret) .skip)) (.seq (.ops [⟨(some 32), none, (.mv (.t 1))⟩, ⟨(some 4), none, (.mv (.t 32))⟩]) .ret))))))))))
theorem k_laws_szGateRule : comp Tryd.prog 33 (Tryd.f9.body.getD .skip) = some c_laws_szGateRule := by kernel_rfl

theorem szGateRule : SzLOk Tryd.prog 9 shGateRule := by
  rintro ts left σ ht h0 h1
  obtain ⟨n0, n1, n2, n3, rfl, b0, b1, b2, b3⟩ := isGateRule ht
  refine acalls_of Tryd.func9 (by decide +kernel) (code := Tryd.f9.body.getD .skip) (n := 33) (c := c_laws_szGateRule) (rs := [(.tmp 4)]) rfl rfl k_laws_szGateRule (by kernel_rfl) (by simp) (fun hσ => ?_)
  try simp only [maxLen] at *
  have fin : ∀ {n : Int} {τ : Store}, n ≤ left → (0 ≤ n → ((n0.size + n1.length + n2.length + n3.length : Nat) : Int) + n ≤ left) → retV σ.length (SzR (T.sizeL [n0, (.str n1), (.str n2), (.str n3)]) left σ) (σ ++ τ) (some [.t (.int .i64 n)]) := fun h h' => ret_same rfl hσ rfl ⟨⟨_, rfl, h, fun h0 => by have := h' h0; rw [sizeGateRule]; exact this⟩, rfl⟩
  simp -implicitDefEqProofs only [c_laws_szGateRule, S0, S1, S2, S3, S4, S5, S6, S7, S8, S9, S10, S11, S12, S13, S14, S15, S16, S17, opv, opvs, eget, env0, setD, lenStr, lenSl, isNilP, isNilS, putAt, if_true, if_false, reduceCtorEq, Nat.reduceLeDiff, Nat.reduceEqDiff, Nat.reduceSub, Nat.reduceMul, Nat.reduceAdd]
  refine call_by (by rw [List.append_nil]; exact szIntS n0 left _ b0 (by omega) (by omega)) ?_
  rintro r σ' ⟨⟨m0, rfl, hm0, hs0⟩, rfl⟩
  try simp only [sizeGateRule] at hs0
  simp -implicitDefEqProofs only [S0, S1, S2, S3, S4, S5, S6, S7, S8, S9, S10, S11, S12, S13, S14, S15, S16, S17, opv, opvs, eget, env0, setD, lenStr, lenSl, isNilP, isNilS, putAt, if_true, if_false, reduceCtorEq, Nat.reduceLeDiff, Nat.reduceEqDiff, Nat.reduceSub, Nat.reduceMul, Nat.reduceAdd]
  refine cond_split (fun h => ?_) (fun h => ?_)
  · simp -implicitDefEqProofs only [S0, S1, S2, S3, S4, S5, S6, S7, S8, S9, S10, S11, S12, S13, S14, S15, S16, S17, opv, opvs, eget, env0, setD, lenStr, lenSl, isNilP, isNilS, putAt, if_true, if_false, reduceCtorEq, Nat.reduceLeDiff, Nat.reduceEqDiff, Nat.reduceSub, Nat.reduceMul, Nat.reduceAdd]
    simp only [decide_eq_true_eq] at h
    exact fin (by omega) (by omega)
  simp only [decide_eq_false_iff_not, Int.not_lt] at h
  replace hs0 := hs0 h
  have w1 : IntKind.i64.wrap (m0 - n1.length) = m0 - n1.length := IntWalk.i64_in _ (by omega)
  simp -implicitDefEqProofs only [w1, S0, S1, S2, S3, S4, S5, S6, S7, S8, S9, S10, S11, S12, S13, S14, S15, S16, S17, opv, opvs, eget, env0, setD, lenStr, lenSl, isNilP, isNilS, putAt, if_true, if_false, reduceCtorEq, Nat.reduceLeDiff, Nat.reduceEqDiff, Nat.reduceSub, Nat.reduceMul, Nat.reduceAdd]
  refine cond_split (fun h => ?_) (fun h => ?_)
  · simp -implicitDefEqProofs only [S0, S1, S2, S3, S4, S5, S6, S7, S8, S9, S10, S11, S12, S13, S14, S15, S16, S17, opv, opvs, eget, env0, setD, lenStr, lenSl, isNilP, isNilS, putAt, if_true, if_false, reduceCtorEq, Nat.reduceLeDiff, Nat.reduceEqDiff, Nat.reduceSub, Nat.reduceMul, Nat.reduceAdd]
    simp only [decide_eq_true_eq] at h
    exact fin (by omega) (by omega)
  simp only [decide_eq_false_iff_not, Int.not_lt] at h
  have w2 : IntKind.i64.wrap ((m0 - n1.length) - n2.length) = (m0 - n1.length) - n2.length := IntWalk.i64_in _ (by omega)
  simp -implicitDefEqProofs only [w2, S0, S1, S2, S3, S4, S5, S6, S7, S8, S9, S10, S11, S12, S13, S14, S15, S16, S17, opv, opvs, eget, env0, setD, lenStr, lenSl, isNilP, isNilS, putAt, if_true, if_false, reduceCtorEq, Nat.reduceLeDiff, Nat.reduceEqDiff, Nat.reduceSub, Nat.reduceMul, Nat.reduceAdd]
  refine cond_split (fun h => ?_) (fun h => ?_)
  · simp -implicitDefEqProofs only [S0, S1, S2, S3, S4, S5, S6, S7, S8, S9, S10, S11, S12, S13, S14, S15, S16, S17, opv, opvs, eget, env0, setD, lenStr, lenSl, isNilP, isNilS, putAt, if_true, if_false, reduceCtorEq, Nat.reduceLeDiff, Nat.reduceEqDiff, Nat.reduceSub, Nat.reduceMul, Nat.reduceAdd]
    simp only [decide_eq_true_eq] at h
    exact fin (by omega) (by omega)
  simp only [decide_eq_false_iff_not, Int.not_lt] at h
  have w3 : IntKind.i64.wrap (((m0 - n1.length) - n2.length) - n3.length) = ((m0 - n1.length) - n2.length) - n3.length := IntWalk.i64_in _ (by omega)
  simp -implicitDefEqProofs only [w3, S0, S1, S2, S3, S4, S5, S6, S7, S8, S9, S10, S11, S12, S13, S14, S15, S16, S17, opv, opvs, eget, env0, setD, lenStr, lenSl, isNilP, isNilS, putAt, if_true, if_false, reduceCtorEq, Nat.reduceLeDiff, Nat.reduceEqDiff, Nat.reduceSub, Nat.reduceMul, Nat.reduceAdd]
  refine cond_split (fun h => ?_) (fun h => ?_)
  · simp -implicitDefEqProofs only [S0, S1, S2, S3, S4, S5, S6, S7, S8, S9, S10, S11, S12, S13, S14, S15, S16, S17, opv, opvs, eget, env0, setD, lenStr, lenSl, isNilP, isNilS, putAt, if_true, if_false, reduceCtorEq, Nat.reduceLeDiff, Nat.reduceEqDiff, Nat.reduceSub, Nat.reduceMul, Nat.reduceAdd]
    simp only [decide_eq_true_eq] at h
    exact fin (by omega) (by omega)
  simp only [decide_eq_false_iff_not, Int.not_lt] at h
  simp -implicitDefEqProofs only [S0, S1, S2, S3, S4, S5, S6, S7, S8, S9, S10, S11, S12, S13, S14, S15, S16, S17, opv, opvs, eget, env0, setD, lenStr, lenSl, isNilP, isNilS, putAt, if_true, if_false, reduceCtorEq, Nat.reduceLeDiff, Nat.reduceEqDiff, Nat.reduceSub, Nat.reduceMul, Nat.reduceAdd]
  exact fin (by omega) (fun _ => by omega)
theorem szGateRule_x {n0} {n1} {n2} {n3} (left : Int) (σ : Store) (b0 : T.is (.sl 1 [.int .i64]) n0) (b1 : n1.length ≤ maxLen) (b2 : n2.length ≤ maxLen) (b3 : n3.length ≤ maxLen) (h0 : 0 ≤ left) (h1 : left ≤ 1048576) : ACalls Tryd.prog 9 [.agg [.t n0, .t (.str n1), .t (.str n2), .t (.str n3)], .t (.int .i64 left)] σ (SzR (T.sizeL [n0, (.str n1), (.str n2), (.str n3)]) left σ) := by
  have h := szGateRule [n0, (.str n1), (.str n2), (.str n3)] left σ (mkGateRule b0 b1 b2 b3) h0 h1
  exact h
def c_laws_eqGateRule : C := (.seq (.ops [⟨(some 2), none, (.box (.t 0))⟩, ⟨(some 3), none, (.box (.t 1))⟩, ⟨(some 4), none, (.mv (.c (.t (.bool false))))⟩]) (.seq (.seq (.ops [⟨(some 5), none, (.fieldAddr 0 (.t 2))⟩, ⟨(some 6), none, (.load none (.t 5))⟩, ⟨(some 7), none, (.fieldAddr 0 (.t 3))⟩, ⟨(some 8), none, (.load none (.t 7))⟩, ⟨(some 9), none, (.call (.c (.fn (.func 46) [])) [(.t 6), (.t 8)])⟩, ⟨(some 10), none, (.un .not (.t 9))⟩]) (.cond (.t 10) (.seq (.ops [⟨(some 4), none, (.mv (.c (.t (.bool false))))⟩]) .ret) .skip)) (.seq (.seq (.ops [⟨(some 11), none, (.fieldAddr 1 (.t 2))⟩, ⟨(some 12), none, (.load none (.t 11))⟩, ⟨(some 13), none, (.fieldAddr 1 (.t 3))⟩, ⟨(some 14), none, (.load none (.t 13))⟩, ⟨(some 15), none, (.bin .neq (.t 12) (.t 14))⟩]) (.cond (.t 15) (.seq (.ops [⟨(some 4), none, (.mv (.c (.t (.bool false))))⟩]) .ret) .skip)) (.seq (.seq (.ops [⟨(some 16), none, (.fieldAddr 2 (.t 2))⟩, ⟨(some 17), none, (.load none (.t 16))⟩, ⟨(some 18), none, (.fieldAddr 2 (.t 3))⟩, ⟨(some 19), none, (.load none (.t 18))⟩, ⟨(some 20), none, (.bin .neq (.t 17) (.t 19))⟩]) (.cond (.t 20) (.seq (.ops [⟨(some 4), none, (.mv (.c (.t (.bool false))))⟩]) .ret) .skip)) (.seq (.seq (.ops [⟨(some 21), none, (.fieldAddr 3 (.t 2))⟩, ⟨(some 22), none, (.load none (.t 21))⟩, ⟨(some 23), none, (.fieldAddr 3 (.t 3))⟩, ⟨(some 24), none, (.load none (.t 23))⟩, ⟨(some 25), none, (.bin .neq (.t 22) (.t 24))⟩]) (.cond (.t 25) (.seq (.ops [⟨(some 4), none, (.mv (.c (.t (.bool false))))⟩]) .ret) .skip)) (.seq (.ops [⟨(some 4), none, (.mv (.c (.t (.bool true))))⟩]) .ret))))))
theorem k_laws_eqGateRule : comp Tryd.prog 26 (Tryd.f18.body.getD .skip) = some c_laws_eqGateRule := by kernel_rfl

theorem eqGateRule : EqLOk Tryd.prog 18 shGateRule := by
  rintro ts σ ht h1
  obtain ⟨n0, n1, n2, n3, rfl, b0, b1, b2, b3⟩ := isGateRule ht
  rw [sizeGateRule] at h1
  refine acalls_of Tryd.func18 (by decide +kernel) (code := Tryd.f18.body.getD .skip) (n := 26) (c := c_laws_eqGateRule) (rs := [(.tmp 4)]) rfl rfl k_laws_eqGateRule (by kernel_rfl) (by simp) (fun hσ => ?_)
  simp -implicitDefEqProofs only [c_laws_eqGateRule, ne_self, beq_self_eq_true, S0, S1, S2, S3, S4, S5, S6, S7, S8, S9, S10, S11, S12, S13, S14, S15, S16, S17, opv, opvs, eget, env0, setD, lenStr, lenSl, isNilP, isNilS, putAt, if_true, if_false, reduceCtorEq, Nat.reduceLeDiff, Nat.reduceEqDiff, Nat.reduceSub, Nat.reduceMul, Nat.reduceAdd]
  refine call_pure (eqIntS n0 _ b0 (by omega)) ?_
  simp -implicitDefEqProofs only [ne_self, beq_self_eq_true, S0, S1, S2, S3, S4, S5, S6, S7, S8, S9, S10, S11, S12, S13, S14, S15, S16, S17, opv, opvs, eget, env0, setD, lenStr, lenSl, isNilP, isNilS, putAt, if_true, if_false, reduceCtorEq, Nat.reduceLeDiff, Nat.reduceEqDiff, Nat.reduceSub, Nat.reduceMul, Nat.reduceAdd]
  exact ret_same rfl hσ rfl ⟨rfl, rfl⟩
theorem eqGateRule_x {n0} {n1} {n2} {n3} (σ : Store) (b0 : T.is (.sl 1 [.int .i64]) n0) (b1 : n1.length ≤ maxLen) (b2 : n2.length ≤ maxLen) (b3 : n3.length ≤ maxLen) (hz : n0.size + n1.length + n2.length + n3.length ≤ 1099511627776) : ACalls Tryd.prog 18 [.agg [.t n0, .t (.str n1), .t (.str n2), .t (.str n3)], .agg [.t n0, .t (.str n1), .t (.str n2), .t (.str n3)]] σ (TrueR σ) := by
  have h := eqGateRule [n0, (.str n1), (.str n2), (.str n3)] σ (mkGateRule b0 b1 b2 b3) (by rw [sizeGateRule]; omega)
  exact h
def c_laws_toGateRule : C := (.seq (.ops [⟨(some 1), none, (.box (.t 0))⟩, ⟨(some 2), none, (.new [.nils, (.t (.str [])), (.t (.str [])), (.t (.str []))])⟩]) (.seq (.ops [⟨(some 3), none, (.new [.nils, (.t (.str [])), (.t (.str [])), (.t (.str []))])⟩]) (.seq (.ops [⟨(some 4), none, (.fieldAddr 0 (.t 1))⟩, ⟨(some 5), none, (.load none (.t 4))⟩, ⟨(some 6), none, (.call (.c (.fn (.func 41) [])) [(.t 5)])⟩, ⟨(some 7), none, (.fieldAddr 0 (.t 3))⟩, ⟨none, none, (.store 1 (.t 7) (.t 6))⟩]) (.seq (.ops [⟨(some 8), none, (.fieldAddr 1 (.t 1))⟩, ⟨(some 9), none, (.load none (.t 8))⟩, ⟨(some 10), none, (.fieldAddr 1 (.t 3))⟩, ⟨none, none, (.store 1 (.t 10) (.t 9))⟩]) (.seq (.ops [⟨(some 11), none, (.fieldAddr 2 (.t 1))⟩, ⟨(some 12), none, (.load none (.t 11))⟩, ⟨(some 13), none, (.fieldAddr 2 (.t 3))⟩, ⟨none, none, (.store 1 (.t 13) (.t 12))⟩]) (.seq (.ops [⟨(some 14), none, (.fieldAddr 3 (.t 1))⟩, ⟨(some 15), none, (.load none (.t 14))⟩, ⟨(some 16), none, (.fieldAddr 3 (.t 3))⟩, ⟨none, none, (.store 1 (.t 16) (.t 15))⟩]) (.seq (.ops [⟨(some 17), none, (.load (some 4) (.t 3))⟩, ⟨none, none, (.store 4 (.t 2) (.t 17))⟩]) .ret)))))))
theorem k_laws_toGateRule : comp Tryd.prog 18 (Tryd.f13.body.getD .skip) = some c_laws_toGateRule := by kernel_rfl

theorem toGateRule : ToLOk Tryd.prog 13 shGateRule := by
  rintro ts σ ht h1
  obtain ⟨n0, n1, n2, n3, rfl, b0, b1, b2, b3⟩ := isGateRule ht
  rw [sizeGateRule] at h1
  refine acalls_of Tryd.func13 (by decide +kernel) (code := Tryd.f13.body.getD .skip) (n := 18) (c := c_laws_toGateRule) (rs := [(.cell 2 (some 4))]) rfl rfl k_laws_toGateRule (by kernel_rfl) (by simp) (fun hσ => ?_)
  simp -implicitDefEqProofs only [c_laws_toGateRule, S0, S1, S2, S3, S4, S5, S6, S7, S8, S9, S10, S11, S12, S13, S14, S15, S16, S17, opv, opvs, eget, env0, setD, lenStr, lenSl, isNilP, isNilS, putAt, if_true, if_false, reduceCtorEq, Nat.reduceLeDiff, Nat.reduceEqDiff, Nat.reduceSub, Nat.reduceMul, Nat.reduceAdd]
  refine call_by (by rw [List.append_nil]; exact toIntS n0 _ b0 (by omega)) ?_
  rintro u0 σ' ⟨τ0, j0, rfl, o0, w0⟩
  have e0 := o0.one
  simp -implicitDefEqProofs only [one_cells e0, e0, S0, S1, S2, S3, S4, S5, S6, S7, S8, S9, S10, S11, S12, S13, S14, S15, S16, S17, opv, opvs, eget, env0, setD, lenStr, lenSl, isNilP, isNilS, putAt, if_true, if_false, reduceCtorEq, Nat.reduceLeDiff, Nat.reduceEqDiff, Nat.reduceSub, Nat.reduceMul, Nat.reduceAdd]
  refine fin_keep (by simp) ⟨_, _, (j0 ++ []), rfl, rfl, (OwnL.lst (own_pre (A := [_, _, _]) (A' := [_, _, _]) (B := τ0) (B' := τ0) o0 w0 (List.append_assoc ..) rfl rfl (by simp) (by simp)) (OwnL.str (OwnL.str (OwnL.str OwnL.nil0)))), ?_⟩
  simp only [List.length_append, List.length_cons, List.length_nil] at w0 ⊢
  refine Wi.mono (a := σ.length) ?_ (Nat.le_refl _) (Nat.le_refl _)
  exact wi_last w0 (by omega) (by omega)
theorem toGateRule_x {n0} {n1} {n2} {n3} (σ : Store) (b0 : T.is (.sl 1 [.int .i64]) n0) (b1 : n1.length ≤ maxLen) (b2 : n2.length ≤ maxLen) (b3 : n3.length ≤ maxLen) (hz : n0.size + n1.length + n2.length + n3.length ≤ 1048576) : ACalls Tryd.prog 13 [.agg [.t n0, .t (.str n1), .t (.str n2), .t (.str n3)]] σ (ToLR [n0, (.str n1), (.str n2), (.str n3)] σ) := by
  have h := toGateRule [n0, (.str n1), (.str n2), (.str n3)] σ (mkGateRule b0 b1 b2 b3) (by rw [sizeGateRule]; omega)
  exact h
theorem i_szGateRuleS : Is Tryd.prog 8 27 [(.tmp 4)] (tSzS 4 9) := ⟨_, _, Tryd.func8, by decide +kernel, rfl, rfl, by kernel_rfl, rfl⟩
theorem szGateRuleS : SzOk Tryd.prog 8 (.sl 4 shGateRule) := szS_ok rfl i_szGateRuleS szGateRule
theorem i_eqGateRuleS : Is Tryd.prog 17 27 [(.tmp 4)] (tEqS 4 18) := ⟨_, _, Tryd.func17, by decide +kernel, rfl, rfl, by kernel_rfl, rfl⟩
theorem eqGateRuleS : EqOk Tryd.prog 17 (.sl 4 shGateRule) := eqS_ok rfl i_eqGateRuleS eqGateRule
theorem i_toGateRuleS : Is Tryd.prog 12 23 [(.tmp 2)] (tToS 4 72 13 [.nils, .t (.str []), .t (.str []), .t (.str [])]) := ⟨_, _, Tryd.func12, by decide +kernel, rfl, rfl, by kernel_rfl, rfl⟩
theorem toGateRuleS : ToOk Tryd.prog 12 (.sl 4 shGateRule) := toS_ok 72 [.nils, .t (.str []), .t (.str []), .t (.str [])] rfl (by decide) rfl (by decide) i_toGateRuleS toGateRule
def shGateAct : List Sh := [.int .i64, .str, .str, .str]
theorem isGateAct {ts : List T} (ht : T.isL shGateAct ts) : ∃ n0 n1 n2 n3, ts = [(.int .i64 n0), (.str n1), (.str n2), (.str n3)] ∧ (Lit.int .i64 n0).wf = true ∧ n1.length ≤ maxLen ∧ n2.length ≤ maxLen ∧ n3.length ≤ maxLen := by
  simp only [shGateAct, isL_cons, isL_nil, is_int, is_bool, is_str] at ht
  obtain ⟨_, _, rfl, ⟨n0, rfl, b0⟩, _, _, rfl, ⟨n1, rfl, b1⟩, _, _, rfl, ⟨n2, rfl, b2⟩, _, _, rfl, ⟨n3, rfl, b3⟩, rfl⟩ := ht
  exact ⟨_, _, _, _, rfl, b0, b1, b2, b3⟩
theorem mkGateAct {n0} {n1} {n2} {n3} (b0 : (Lit.int .i64 n0).wf = true) (b1 : n1.length ≤ maxLen) (b2 : n2.length ≤ maxLen) (b3 : n3.length ≤ maxLen) : T.isL shGateAct [(.int .i64 n0), (.str n1), (.str n2), (.str n3)] := by
  simp only [shGateAct, isL_cons, isL_nil, is_int, is_bool, is_str]
  exact ⟨_, _, rfl, ⟨_, rfl, b0⟩, _, _, rfl, ⟨_, rfl, b1⟩, _, _, rfl, ⟨_, rfl, b2⟩, _, _, rfl, ⟨_, rfl, b3⟩, rfl⟩
theorem sizeGateAct {n0} {n1} {n2} {n3} : T.sizeL [(.int .i64 n0), (.str n1), (.str n2), (.str n3)] = n1.length + n2.length + n3.length := by
  simp only [sizeL_cons, sizeL_nil, size_int, size_bool, size_str]
  try omega
def c_laws_eqGateAct : C := (.seq (.ops [⟨(some 2), none, (.box (.t 0))⟩, ⟨(some 3), none, (.box (.t 1))⟩, ⟨(some 4), none, (.mv (.c (.t (.bool false))))⟩]) (.seq (.seq (.ops [⟨(some 5), none, (.fieldAddr 0 (.t 2))⟩, ⟨(some 6), none, (.load none (.t 5))⟩, ⟨(some 7), none, (.fieldAddr 0 (.t 3))⟩, ⟨(some 8), none, (.load none (.t 7))⟩, ⟨(some 9), none, (.bin .neq (.t 6) (.t 8))⟩]) (.cond (.t 9) (.seq (.ops [⟨(some 4), none, (.mv (.c (.t (.bool false))))⟩]) .ret) .skip)) (.seq (.seq (.ops [⟨(some 10), none, (.fieldAddr 1 (.t 2))⟩, ⟨(some 11), none, (.load none (.t 10))⟩, ⟨(some 12), none, (.fieldAddr 1 (.t 3))⟩, ⟨(some 13), none, (.load none (.t 12))⟩, ⟨(some 14), none, (.bin .neq (.t 11) (.t 13))⟩]) (.cond (.t 14) (.seq (.ops [⟨(some 4), none, (.mv (.c (.t (.bool false))))⟩]) .ret) .skip)) (.seq (.seq (.ops [⟨(some 15), none, (.fieldAddr 2 (.t 2))⟩, ⟨(some 16), none, (.load none (.t 15))⟩, ⟨(some 17), none, (.fieldAddr 2 (.t 3))⟩, ⟨(some 18), none, (.load none (.t 17))⟩, ⟨(some 19), none, (.bin .neq (.t 16) (.t 18))⟩]) (.cond (.t 19) (.seq (.ops [⟨(some 4), none, (.mv (.c (.t (.bool false))))⟩]) .ret) .skip)) (.seq (.seq (.ops [⟨(some 20), none, (.fieldAddr 3 (.t 2))⟩, ⟨(some 21), none, (.load none (.t 20))⟩, ⟨(some 22), none, (.fieldAddr 3 (.t 3))⟩, ⟨(some 23), none, (.load none (.t 22))⟩, ⟨(some 24), none, (.bin .neq (.t 21) (.t 23))⟩]) (.cond (.t 24) (.seq (.ops [⟨(some 4), none, (.mv (.c (.t (.bool false))))⟩]) .ret) .skip)) (.seq (.ops [⟨(some 4), none, (.mv (.c (.t (.bool true))))⟩]) .ret))))))
theorem k_laws_eqGateAct : comp Tryd.prog 25 (Tryd.f15.body.getD .skip) = some c_laws_eqGateAct := by kernel_rfl

theorem eqGateAct : EqLOk Tryd.prog 15 shGateAct := by
  rintro ts σ ht h1
  obtain ⟨n0, n1, n2, n3, rfl, b0, b1, b2, b3⟩ := isGateAct ht
  rw [sizeGateAct] at h1
  refine acalls_of Tryd.func15 (by decide +kernel) (code := Tryd.f15.body.getD .skip) (n := 25) (c := c_laws_eqGateAct) (rs := [(.tmp 4)]) rfl rfl k_laws_eqGateAct (by kernel_rfl) (by simp) (fun hσ => ?_)
  simp -implicitDefEqProofs only [c_laws_eqGateAct, ne_self, beq_self_eq_true, S0, S1, S2, S3, S4, S5, S6, S7, S8, S9, S10, S11, S12, S13, S14, S15, S16, S17, opv, opvs, eget, env0, setD, lenStr, lenSl, isNilP, isNilS, putAt, if_true, if_false, reduceCtorEq, Nat.reduceLeDiff, Nat.reduceEqDiff, Nat.reduceSub, Nat.reduceMul, Nat.reduceAdd]
  exact ret_same rfl hσ rfl ⟨rfl, rfl⟩
theorem eqGateAct_x {n0} {n1} {n2} {n3} (σ : Store) (b0 : (Lit.int .i64 n0).wf = true) (b1 : n1.length ≤ maxLen) (b2 : n2.length ≤ maxLen) (b3 : n3.length ≤ maxLen) (hz : n1.length + n2.length + n3.length ≤ 1099511627776) : ACalls Tryd.prog 15 [.agg [.t (.int .i64 n0), .t (.str n1), .t (.str n2), .t (.str n3)], .agg [.t (.int .i64 n0), .t (.str n1), .t (.str n2), .t (.str n3)]] σ (TrueR σ) := by
  have h := eqGateAct [(.int .i64 n0), (.str n1), (.str n2), (.str n3)] σ (mkGateAct b0 b1 b2 b3) (by rw [sizeGateAct]; omega)
  exact h
def shGateField : List Sh := [.str, .int .i64, .int .i64, .int .i64, .sl 1 [.str], .str, .int .i64, .bool, .bool, .str, .str]
theorem isGateField {ts : List T} (ht : T.isL shGateField ts) : ∃ n0 n1 n2 n3 n4 n5 n6 n7 n8 n9 n10, ts = [(.str n0), (.int .i64 n1), (.int .i64 n2), (.int .i64 n3), n4, (.str n5), (.int .i64 n6), (.bool n7), (.bool n8), (.str n9), (.str n10)] ∧ n0.length ≤ maxLen ∧ (Lit.int .i64 n1).wf = true ∧ (Lit.int .i64 n2).wf = true ∧ (Lit.int .i64 n3).wf = true ∧ T.is (.sl 1 [.str]) n4 ∧ n5.length ≤ maxLen ∧ (Lit.int .i64 n6).wf = true ∧ n9.length ≤ maxLen ∧ n10.length ≤ maxLen := by
  simp only [shGateField, isL_cons, isL_nil, is_int, is_bool, is_str] at ht
  obtain ⟨_, _, rfl, ⟨n0, rfl, b0⟩, _, _, rfl, ⟨n1, rfl, b1⟩, _, _, rfl, ⟨n2, rfl, b2⟩, _, _, rfl, ⟨n3, rfl, b3⟩, n4, _, rfl, b4, _, _, rfl, ⟨n5, rfl, b5⟩, _, _, rfl, ⟨n6, rfl, b6⟩, _, _, rfl, ⟨n7, rfl⟩, _, _, rfl, ⟨n8, rfl⟩, _, _, rfl, ⟨n9, rfl, b9⟩, _, _, rfl, ⟨n10, rfl, b10⟩, rfl⟩ := ht
  exact ⟨_, _, _, _, _, _, _, _, _, _, _, rfl, b0, b1, b2, b3, b4, b5, b6, b9, b10⟩
theorem mkGateField {n0} {n1} {n2} {n3} {n4} {n5} {n6} {n7} {n8} {n9} {n10} (b0 : n0.length ≤ maxLen) (b1 : (Lit.int .i64 n1).wf = true) (b2 : (Lit.int .i64 n2).wf = true) (b3 : (Lit.int .i64 n3).wf = true) (b4 : T.is (.sl 1 [.str]) n4) (b5 : n5.length ≤ maxLen) (b6 : (Lit.int .i64 n6).wf = true) (b9 : n9.length ≤ maxLen) (b10 : n10.length ≤ maxLen) : T.isL shGateField [(.str n0), (.int .i64 n1), (.int .i64 n2), (.int .i64 n3), n4, (.str n5), (.int .i64 n6), (.bool n7), (.bool n8), (.str n9), (.str n10)] := by
  simp only [shGateField, isL_cons, isL_nil, is_int, is_bool, is_str]
  exact ⟨_, _, rfl, ⟨_, rfl, b0⟩, _, _, rfl, ⟨_, rfl, b1⟩, _, _, rfl, ⟨_, rfl, b2⟩, _, _, rfl, ⟨_, rfl, b3⟩, _, _, rfl, b4, _, _, rfl, ⟨_, rfl, b5⟩, _, _, rfl, ⟨_, rfl, b6⟩, _, _, rfl, ⟨_, rfl⟩, _, _, rfl, ⟨_, rfl⟩, _, _, rfl, ⟨_, rfl, b9⟩, _, _, rfl, ⟨_, rfl, b10⟩, rfl⟩
theorem sizeGateField {n0} {n1} {n2} {n3} {n4} {n5} {n6} {n7} {n8} {n9} {n10} : T.sizeL [(.str n0), (.int .i64 n1), (.int .i64 n2), (.int .i64 n3), n4, (.str n5), (.int .i64 n6), (.bool n7), (.bool n8), (.str n9), (.str n10)] = n0.length + n4.size + n5.length + n9.length + n10.length := by
  simp only [sizeL_cons, sizeL_nil, size_int, size_bool, size_str]
  try omega
def c_laws_szGateField : C := (.seq (.ops [⟨(some 2), none, (.box (.t 0))⟩, ⟨(some 4), none, (.mv (.c (.t (.int .i64 0))))⟩]) (.seq (.ops [⟨(some 5), none, (.mv (.t 1))⟩, ⟨(some 6), none, (.fieldAddr 0 (.t 2))⟩, ⟨(some 7), none, (.load none (.t 6))⟩, ⟨(some 8), none, (.len true (.t 7))⟩, ⟨(some 9), none, (.bin .sub (.t 5) (.t 8))⟩, ⟨(some 1), none, (.mv (.t 9))⟩]) (.seq (.seq (.ops [⟨(some 10), none, (.mv (.t 1))⟩, ⟨(some 11), none, (.bin .lss (.t 10) (.c (.t (.int .i64 0))))⟩]) (.cond (.t 11) (.seq (.ops [⟨(some 4), none, (.mv (.c (.t (.int .i64 (-1)))))⟩]) .ret) .skip)) (.seq (.ops [⟨(some 12), none, (.fieldAddr 4 (.t 2))⟩, ⟨(some 13), none, (.load none (.t 12))⟩, ⟨(some 14), none, (.mv (.t 1))⟩, ⟨(some 15), none, (.call (.c (.fn (.func 48) [])) [(.t 13), (.t 14)])⟩, ⟨(some 1), none, (.mv (.t 15))⟩]) (.seq (.seq (.ops [⟨(some 16), none, (.mv (.t 1))⟩, ⟨(some 17), none, (.bin .lss (.t 16) (.c (.t (.int .i64 0))))⟩]) (.cond (.t 17) (.seq (.ops [⟨(some 4), none, (.mv (.c (.t (.int .i64 (-1)))))⟩]) .ret) .skip)) (.seq (.ops [⟨(some 18), none, (.mv (.t 1))⟩, ⟨(some 19), none, (.fieldAddr 5 (.t 2))⟩, ⟨(some 20), none, (.load none (.t 19))⟩, ⟨(some 21), none, (.len true (.t 20))⟩, ⟨(some 22), none, (.bin .sub (.t 18) (.t 21))⟩, ⟨(some 1), none, (.mv (.t 22))⟩]) (.seq (.seq (.ops [⟨(some 23), none, (.mv (.t 1))⟩, ⟨(some 24), none, (.bin .lss (.t 23) (.c (.t (.int .i64 0))))⟩]) (.cond (.t 24) (.seq (.ops [⟨(some 4), none, (.mv (.c (.t (.int .i64 (-1)))))⟩]) .ret) .skip)) (.seq (.ops [⟨(some 25), none, (.mv (.t 1))⟩, ⟨(some 26), none, (.fieldAddr 9 (.t 2))⟩, ⟨(some 27), none, (.load none (.t 26))⟩, ⟨(some 28), none, (.len true (.t 27))⟩, ⟨(some 29), none, (.bin .sub (.t 25) (.t 28))⟩, ⟨(some 1), none, (.mv (.t 29))⟩]) (.seq (.seq (.ops [⟨(some 30), none, (.mv (.t 1))⟩, ⟨(some 31), none, (.bin .lss (.t 30) (.c (.t (.int .i64 0))))⟩]) (.cond (.t 31) (.seq (.ops [⟨(some 4), none, (.mv (.c (.t (.int .i64 (-1)))))⟩]) .ret) .skip)) (.seq (.ops [⟨(some 32), none, (.mv (.t 1))⟩, ⟨(some 33), none, (.fieldAddr 10 (.t 2))⟩, ⟨(some 34), none, (.load none (.t 33))⟩, ⟨(some 35), none, (.len true (.t 34))⟩, ⟨(some 36), none, (.bin .sub (.t 32) (.t 35))⟩, ⟨(some 1), none, (.mv (.t 36))⟩]) (.seq (.seq (.ops [⟨(some 37), none, (.mv (.t 1))⟩, ⟨(some 38), none, (.bin .lss (.t 37) (.c (.t (.int .i64 0))))⟩]) (.cond (.t 38) (.seq (.ops [⟨(some 4), none, (.mv (.c (.t (.int .i64 (-1)))))⟩]) .ret) .skip)) (.seq (.ops [⟨(some 39), none, (.mv (.t 1))⟩, ⟨(some 4), none, (.mv (.t 39))⟩]) .ret))))))))))))
theorem k_laws_szGateField : comp Tryd.prog 40 (Tryd.f109.body.getD .skip) = some c_laws_szGateField := by kernel_rfl

theorem szGateField : SzLOk Tryd.prog 109 shGateField := by
  rintro ts left σ ht h0 h1
  obtain ⟨n0, n1, n2, n3, n4, n5, n6, n7, n8, n9, n10, rfl, b0, b1, b2, b3, b4, b5, b6, b9, b10⟩ := isGateField ht
  refine acalls_of Tryd.func109 (by decide +kernel) (code := Tryd.f109.body.getD .skip) (n := 40) (c := c_laws_szGateField) (rs := [(.tmp 4)]) rfl rfl k_laws_szGateField (by kernel_rfl) (by simp) (fun hσ => ?_)
  try simp only [maxLen] at *
  have fin : ∀ {n : Int} {τ : Store}, n ≤ left → (0 ≤ n → ((n0.length + n4.size + n5.length + n9.length + n10.length : Nat) : Int) + n ≤ left) → retV σ.length (SzR (T.sizeL [(.str n0), (.int .i64 n1), (.int .i64 n2), (.int .i64 n3), n4, (.str n5), (.int .i64 n6), (.bool n7), (.bool n8), (.str n9), (.str n10)]) left σ) (σ ++ τ) (some [.t (.int .i64 n)]) := fun h h' => ret_same rfl hσ rfl ⟨⟨_, rfl, h, fun h0 => by have := h' h0; rw [sizeGateField]; exact this⟩, rfl⟩
  have w0 : IntKind.i64.wrap (left - n0.length) = left - n0.length := IntWalk.i64_in _ (by omega)
  simp -implicitDefEqProofs only [c_laws_szGateField, w0, S0, S1, S2, S3, S4, S5, S6, S7, S8, S9, S10, S11, S12, S13, S14, S15, S16, S17, opv, opvs, eget, env0, setD, lenStr, lenSl, isNilP, isNilS, putAt, if_true, if_false, reduceCtorEq, Nat.reduceLeDiff, Nat.reduceEqDiff, Nat.reduceSub, Nat.reduceMul, Nat.reduceAdd]
  refine cond_split (fun h => ?_) (fun h => ?_)
  · simp -implicitDefEqProofs only [S0, S1, S2, S3, S4, S5, S6, S7, S8, S9, S10, S11, S12, S13, S14, S15, S16, S17, opv, opvs, eget, env0, setD, lenStr, lenSl, isNilP, isNilS, putAt, if_true, if_false, reduceCtorEq, Nat.reduceLeDiff, Nat.reduceEqDiff, Nat.reduceSub, Nat.reduceMul, Nat.reduceAdd]
    simp only [decide_eq_true_eq] at h
    exact fin (by omega) (by omega)
  simp only [decide_eq_false_iff_not, Int.not_lt] at h
  simp -implicitDefEqProofs only [S0, S1, S2, S3, S4, S5, S6, S7, S8, S9, S10, S11, S12, S13, S14, S15, S16, S17, opv, opvs, eget, env0, setD, lenStr, lenSl, isNilP, isNilS, putAt, if_true, if_false, reduceCtorEq, Nat.reduceLeDiff, Nat.reduceEqDiff, Nat.reduceSub, Nat.reduceMul, Nat.reduceAdd]
  refine call_by (by rw [List.append_nil]; exact szStringS n4 (left - n0.length) _ b4 (by omega) (by omega)) ?_
  rintro r σ' ⟨⟨m4, rfl, hm4, hs4⟩, rfl⟩
  try simp only [sizeGateField] at hs4
  simp -implicitDefEqProofs only [S0, S1, S2, S3, S4, S5, S6, S7, S8, S9, S10, S11, S12, S13, S14, S15, S16, S17, opv, opvs, eget, env0, setD, lenStr, lenSl, isNilP, isNilS, putAt, if_true, if_false, reduceCtorEq, Nat.reduceLeDiff, Nat.reduceEqDiff, Nat.reduceSub, Nat.reduceMul, Nat.reduceAdd]
  refine cond_split (fun h => ?_) (fun h => ?_)
  · simp -implicitDefEqProofs only [S0, S1, S2, S3, S4, S5, S6, S7, S8, S9, S10, S11, S12, S13, S14, S15, S16, S17, opv, opvs, eget, env0, setD, lenStr, lenSl, isNilP, isNilS, putAt, if_true, if_false, reduceCtorEq, Nat.reduceLeDiff, Nat.reduceEqDiff, Nat.reduceSub, Nat.reduceMul, Nat.reduceAdd]
    simp only [decide_eq_true_eq] at h
    exact fin (by omega) (by omega)
  simp only [decide_eq_false_iff_not, Int.not_lt] at h
  replace hs4 := hs4 h
  have w5 : IntKind.i64.wrap (m4 - n5.length) = m4 - n5.length := IntWalk.i64_in _ (by omega)
  simp -implicitDefEqProofs only [w5, S0, S1, S2, S3, S4, S5, S6, S7, S8, S9, S10, S11, S12, S13, S14, S15, S16, S17, opv, opvs, eget, env0, setD, lenStr, lenSl, isNilP, isNilS, putAt, if_true, if_false, reduceCtorEq, Nat.reduceLeDiff, Nat.reduceEqDiff, Nat.reduceSub, Nat.reduceMul, Nat.reduceAdd]
  refine cond_split (fun h => ?_) (fun h => ?_)
  · simp -implicitDefEqProofs only [S0, S1, S2, S3, S4, S5, S6, S7, S8, S9, S10, S11, S12, S13, S14, S15, S16, S17, opv, opvs, eget, env0, setD, lenStr, lenSl, isNilP, isNilS, putAt, if_true, if_false, reduceCtorEq, Nat.reduceLeDiff, Nat.reduceEqDiff, Nat.reduceSub, Nat.reduceMul, Nat.reduceAdd]
    simp only [decide_eq_true_eq] at h
    exact fin (by omega) (by omega)
  simp only [decide_eq_false_iff_not, Int.not_lt] at h
  have w9 : IntKind.i64.wrap ((m4 - n5.length) - n9.length) = (m4 - n5.length) - n9.length := IntWalk.i64_in _ (by omega)
  simp -implicitDefEqProofs only [w9, S0, S1, S2, S3, S4, S5, S6, S7, S8, S9, S10, S11, S12, S13, S14, S15, S16, S17, opv, opvs, eget, env0, setD, lenStr, lenSl, isNilP, isNilS, putAt, if_true, if_false, reduceCtorEq, Nat.reduceLeDiff, Nat.reduceEqDiff, Nat.reduceSub, Nat.reduceMul, Nat.reduceAdd]
  refine cond_split (fun h => ?_) (fun h => ?_)
  · simp -implicitDefEqProofs only [S0, S1, S2, S3, S4, S5, S6, S7, S8, S9, S10, S11, S12, S13, S14, S15, S16, S17, opv, opvs, eget, env0, setD, lenStr, lenSl, isNilP, isNilS, putAt, if_true, if_false, reduceCtorEq, Nat.reduceLeDiff, Nat.reduceEqDiff, Nat.reduceSub, Nat.reduceMul, Nat.reduceAdd]
    simp only [decide_eq_true_eq] at h
    exact fin (by omega) (by omega)
  simp only [decide_eq_false_iff_not, Int.not_lt] at h
  have w10 : IntKind.i64.wrap (((m4 - n5.length) - n9.length) - n10.length) = ((m4 - n5.length) - n9.length) - n10.length := IntWalk.i64_in _ (by omega)
  simp -implicitDefEqProofs only [w10, S0, S1, S2, S3, S4, S5, S6, S7, S8, S9, S10, S11, S12, S13, S14, S15, S16, S17, opv, opvs, eget, env0, setD, lenStr, lenSl, isNilP, isNilS, putAt, if_true, if_false, reduceCtorEq, Nat.reduceLeDiff, Nat.reduceEqDiff, Nat.reduceSub, Nat.reduceMul, Nat.reduceAdd]
  refine cond_split (fun h => ?_) (fun h => ?_)
  · simp -implicitDefEqProofs only [S0, S1, S2, S3, S4, S5, S6, S7, S8, S9, S10, S11, S12, S13, S14, S15, S16, S17, opv, opvs, eget, env0, setD, lenStr, lenSl, isNilP, isNilS, putAt, if_true, if_false, reduceCtorEq, Nat.reduceLeDiff, Nat.reduceEqDiff, Nat.reduceSub, Nat.reduceMul, Nat.reduceAdd]
    simp only [decide_eq_true_eq] at h
    exact fin (by omega) (by omega)
  simp only [decide_eq_false_iff_not, Int.not_lt] at h
  simp -implicitDefEqProofs only [S0, S1, S2, S3, S4, S5, S6, S7, S8, S9, S10, S11, S12, S13, S14, S15, S16, S17, opv, opvs, eget, env0, setD, lenStr, lenSl, isNilP, isNilS, putAt, if_true, if_false, reduceCtorEq, Nat.reduceLeDiff, Nat.reduceEqDiff, Nat.reduceSub, Nat.reduceMul, Nat.reduceAdd]
  exact fin (by omega) (fun _ => by omega)
theorem szGateField_x {n0} {n1} {n2} {n3} {n4} {n5} {n6} {n7} {n8} {n9} {n10} (left : Int) (σ : Store) (b0 : n0.length ≤ maxLen) (b1 : (Lit.int .i64 n1).wf = true) (b2 : (Lit.int .i64 n2).wf = true) (b3 : (Lit.int .i64 n3).wf = true) (b4 : T.is (.sl 1 [.str]) n4) (b5 : n5.length ≤ maxLen) (b6 : (Lit.int .i64 n6).wf = true) (b9 : n9.length ≤ maxLen) (b10 : n10.length ≤ maxLen) (h0 : 0 ≤ left) (h1 : left ≤ 1048576) : ACalls Tryd.prog 109 [.agg [.t (.str n0), .t (.int .i64 n1), .t (.int .i64 n2), .t (.int .i64 n3), .t n4, .t (.str n5), .t (.int .i64 n6), .t (.bool n7), .t (.bool n8), .t (.str n9), .t (.str n10)], .t (.int .i64 left)] σ (SzR (T.sizeL [(.str n0), (.int .i64 n1), (.int .i64 n2), (.int .i64 n3), n4, (.str n5), (.int .i64 n6), (.bool n7), (.bool n8), (.str n9), (.str n10)]) left σ) := by
  have h := szGateField [(.str n0), (.int .i64 n1), (.int .i64 n2), (.int .i64 n3), n4, (.str n5), (.int .i64 n6), (.bool n7), (.bool n8), (.str n9), (.str n10)] left σ (mkGateField b0 b1 b2 b3 b4 b5 b6 b9 b10) h0 h1
  exact h
def c_laws_eqGateField : C := (.seq (.ops [⟨(some 2), none, (.box (.t 0))⟩, ⟨(some 3), none, (.box (.t 1))⟩, ⟨(some 4), none, (.mv (.c (.t (.bool false))))⟩]) (.seq (.seq (.ops [⟨(some 5), none, (.fieldAddr 0 (.t 2))⟩, ⟨(some 6), none, (.load none (.t 5))⟩, ⟨(some 7), none, (.fieldAddr 0 (.t 3))⟩, ⟨(some 8), none, (.load none (.t 7))⟩, ⟨(some 9), none, (.bin .neq (.t 6) (.t 8))⟩]) (.cond (.t 9) (.seq (.ops [⟨(some 4), none, (.mv (.c (.t (.bool false))))⟩]) .ret) .skip)) (.seq (.seq (.ops [⟨(some 10), none, (.fieldAddr 1 (.t 2))⟩, ⟨(some 11), none, (.load none (.t 10))⟩, ⟨(some 12), none, (.fieldAddr 1 (.t 3))⟩, ⟨(some 13), none, (.load none (.t 12))⟩, ⟨(some 14), none, (.bin .neq (.t 11) (.t 13))⟩]) (.cond (.t 14) (.seq (.ops [⟨(some 4), none, (.mv (.c (.t (.bool false))))⟩]) .ret) .skip)) (.seq (.seq (.ops [⟨(some 15), none, (.fieldAddr 2 (.t 2))⟩, ⟨(some 16), none, (.load none (.t 15))⟩, ⟨(some 17), none, (.fieldAddr 2 (.t 3))⟩, ⟨(some 18), none, (.load none (.t 17))⟩, ⟨(some 19), none, (.bin .neq (.t 16) (.t 18))⟩]) (.cond (.t 19) (.seq (.ops [⟨(some 4), none, (.mv (.c (.t (.bool false))))⟩]) .ret) .skip)) (.seq (.seq (.ops [⟨(some 20), none, (.fieldAddr 3 (.t 2))⟩, ⟨(some 21), none, (.load none (.t 20))⟩, ⟨(some 22), none, (.fieldAddr 3 (.t 3))⟩, ⟨(some 23), none, (.load none (.t 22))⟩, ⟨(some 24), none, (.bin .neq (.t 21) (.t 23))⟩]) (.cond (.t 24) (.seq (.ops [⟨(some 4), none, (.mv (.c (.t (.bool false))))⟩]) .ret) .skip)) (.seq (.seq (.ops [⟨(some 25), none, (.fieldAddr 4 (.t 2))⟩, ⟨(some 26), none, (.load none (.t 25))⟩, ⟨(some 27), none, (.fieldAddr 4 (.t 3))⟩, ⟨(some 28), none, (.load none (.t 27))⟩, ⟨(some 29), none, (.call (.c (.fn (.func 57) [])) [(.t 26), (.t 28)])⟩, ⟨(some 30), none, (.un .not (.t 29))⟩]) (.cond (.t 30) (.seq (.ops [⟨(some 4), none, (.mv (.c (.t (.bool false))))⟩]) .ret) .skip)) (.seq (.seq (.ops [⟨(some 31), none, (.fieldAddr 5 (.t 2))⟩, ⟨(some 32), none, (.load none (.t 31))⟩, ⟨(some 33), none, (.fieldAddr 5 (.t 3))⟩, ⟨(some 34), none, (.load none (.t 33))⟩, ⟨(some 35), none, (.bin .neq (.t 32) (.t 34))⟩]) (.cond (.t 35) (.seq (.ops [⟨(some 4), none, (.mv (.c (.t (.bool false))))⟩]) .ret) .skip)) (.seq (.seq (.ops [⟨(some 36), none, (.fieldAddr 6 (.t 2))⟩, ⟨(some 37), none, (.load none (.t 36))⟩, ⟨(some 38), none, (.fieldAddr 6 (.t 3))⟩, ⟨(some 39), none, (.load none (.t 38))⟩, ⟨(some 40), none, (.bin .neq (.t 37) (.t 39))⟩]) (.cond (.t 40) (.seq (.ops [⟨(some 4), none, (.mv (.c (.t (.bool false))))⟩]) .ret) .skip)) (.seq (.seq (.ops [⟨(some 41), none, (.fieldAddr 7 (.t 2))⟩, ⟨(some 42), none, (.load none (.t 41))⟩, ⟨(some 43), none, (.fieldAddr 7 (.t 3))⟩, ⟨(some 44), none, (.load none (.t 43))⟩, ⟨(some 45), none, (.eqB true (.t 42) (.t 44))⟩]) (.cond (.t 45) (.seq (.ops [⟨(some 4), none, (.mv (.c (.t (.bool false))))⟩]) .ret) .skip)) (.seq (.seq (.ops [⟨(some 46), none, (.fieldAddr 8 (.t 2))⟩, ⟨(some 47), none, (.load none (.t 46))⟩, ⟨(some 48), none, (.fieldAddr 8 (.t 3))⟩, ⟨(some 49), none, (.load none (.t 48))⟩, ⟨(some 50), none, (.eqB true (.t 47) (.t 49))⟩]) (.cond (.t 50) (.seq (.ops [⟨(some 4), none, (.mv (.c (.t (.bool false))))⟩]) .ret) .skip)) (.seq (.seq (.ops [⟨(some 51), none, (.fieldAddr 9 (.t 2))⟩, ⟨(some 52), none, (.load none (.t 51))⟩, ⟨(some 53), none, (.fieldAddr 9 (.t 3))⟩, ⟨(some 54), none, (.load none (.t 53))⟩, ⟨(some 55), none, (.bin .neq (.t 52) (.t 54))⟩]) (.cond (.t 55) (.seq (.ops [⟨(some 4), none, (.mv (.c (.t (.bool false))))⟩]) .ret) .skip)) (.seq (.seq (.ops [⟨(some 56), none, (.fieldAddr 10 (.t 2))⟩, ⟨(some 57), none, (.load none (.t 56))⟩, ⟨(some 58), none, (.fieldAddr 10 (.t 3))⟩, ⟨(some 59), none, (.load none (.t 58))⟩, ⟨(some 60), none, (.bin .neq (.t 57) (.t 59))⟩]) (.cond (.t 60) (.seq (.ops [⟨(some 4), none, (.mv (.c (.t (.bool false))))⟩]) .ret) .skip)) (.seq (.ops [⟨(some 4), none, (.mv (.c (.t (.bool true))))⟩]) .ret)))))))))))))
theorem k_laws_eqGateField : comp Tryd.prog 61 (Tryd.f119.body.getD .skip) = some c_laws_eqGateField := by kernel_rfl

theorem eqGateField : EqLOk Tryd.prog 119 shGateField := by
  rintro ts σ ht h1
  obtain ⟨n0, n1, n2, n3, n4, n5, n6, n7, n8, n9, n10, rfl, b0, b1, b2, b3, b4, b5, b6, b9, b10⟩ := isGateField ht
  rw [sizeGateField] at h1
  refine acalls_of Tryd.func119 (by decide +kernel) (code := Tryd.f119.body.getD .skip) (n := 61) (c := c_laws_eqGateField) (rs := [(.tmp 4)]) rfl rfl k_laws_eqGateField (by kernel_rfl) (by simp) (fun hσ => ?_)
  simp -implicitDefEqProofs only [c_laws_eqGateField, ne_self, beq_self_eq_true, S0, S1, S2, S3, S4, S5, S6, S7, S8, S9, S10, S11, S12, S13, S14, S15, S16, S17, opv, opvs, eget, env0, setD, lenStr, lenSl, isNilP, isNilS, putAt, if_true, if_false, reduceCtorEq, Nat.reduceLeDiff, Nat.reduceEqDiff, Nat.reduceSub, Nat.reduceMul, Nat.reduceAdd]
  refine call_pure (eqStringS n4 _ b4 (by omega)) ?_
  simp -implicitDefEqProofs only [ne_self, beq_self_eq_true, S0, S1, S2, S3, S4, S5, S6, S7, S8, S9, S10, S11, S12, S13, S14, S15, S16, S17, opv, opvs, eget, env0, setD, lenStr, lenSl, isNilP, isNilS, putAt, if_true, if_false, reduceCtorEq, Nat.reduceLeDiff, Nat.reduceEqDiff, Nat.reduceSub, Nat.reduceMul, Nat.reduceAdd]
  exact ret_same rfl hσ rfl ⟨rfl, rfl⟩
theorem eqGateField_x {n0} {n1} {n2} {n3} {n4} {n5} {n6} {n7} {n8} {n9} {n10} (σ : Store) (b0 : n0.length ≤ maxLen) (b1 : (Lit.int .i64 n1).wf = true) (b2 : (Lit.int .i64 n2).wf = true) (b3 : (Lit.int .i64 n3).wf = true) (b4 : T.is (.sl 1 [.str]) n4) (b5 : n5.length ≤ maxLen) (b6 : (Lit.int .i64 n6).wf = true) (b9 : n9.length ≤ maxLen) (b10 : n10.length ≤ maxLen) (hz : n0.length + n4.size + n5.length + n9.length + n10.length ≤ 1099511627776) : ACalls Tryd.prog 119 [.agg [.t (.str n0), .t (.int .i64 n1), .t (.int .i64 n2), .t (.int .i64 n3), .t n4, .t (.str n5), .t (.int .i64 n6), .t (.bool n7), .t (.bool n8), .t (.str n9), .t (.str n10)], .agg [.t (.str n0), .t (.int .i64 n1), .t (.int .i64 n2), .t (.int .i64 n3), .t n4, .t (.str n5), .t (.int .i64 n6), .t (.bool n7), .t (.bool n8), .t (.str n9), .t (.str n10)]] σ (TrueR σ) := by
  have h := eqGateField [(.str n0), (.int .i64 n1), (.int .i64 n2), (.int .i64 n3), n4, (.str n5), (.int .i64 n6), (.bool n7), (.bool n8), (.str n9), (.str n10)] σ (mkGateField b0 b1 b2 b3 b4 b5 b6 b9 b10) (by rw [sizeGateField]; omega)
  exact h
def c_laws_toGateField : C := (.seq (.ops [⟨(some 1), none, (.box (.t 0))⟩, ⟨(some 2), none, (.new [(.t (.str [])), (.t (.int .i64 0)), (.t (.int .i64 0)), (.t (.int .i64 0)), .nils, (.t (.str [])), (.t (.int .i64 0)), (.t (.bool false)), (.t (.bool false)), (.t (.str [])), (.t (.str []))])⟩]) (.seq (.ops [⟨(some 3), none, (.new [(.t (.str [])), (.t (.int .i64 0)), (.t (.int .i64 0)), (.t (.int .i64 0)), .nils, (.t (.str [])), (.t (.int .i64 0)), (.t (.bool false)), (.t (.bool false)), (.t (.str [])), (.t (.str []))])⟩]) (.seq (.ops [⟨(some 4), none, (.fieldAddr 0 (.t 1))⟩, ⟨(some 5), none, (.load none (.t 4))⟩, ⟨(some 6), none, (.fieldAddr 0 (.t 3))⟩, ⟨none, none, (.store 1 (.t 6) (.t 5))⟩]) (.seq (.ops [⟨(some 7), none, (.fieldAddr 1 (.t 1))⟩, ⟨(some 8), none, (.load none (.t 7))⟩, ⟨(some 9), none, (.fieldAddr 1 (.t 3))⟩, ⟨none, none, (.store 1 (.t 9) (.t 8))⟩]) (.seq (.ops [⟨(some 10), none, (.fieldAddr 2 (.t 1))⟩, ⟨(some 11), none, (.load none (.t 10))⟩, ⟨(some 12), none, (.fieldAddr 2 (.t 3))⟩, ⟨none, none, (.store 1 (.t 12) (.t 11))⟩]) (.seq (.ops [⟨(some 13), none, (.fieldAddr 3 (.t 1))⟩, ⟨(some 14), none, (.load none (.t 13))⟩, ⟨(some 15), none, (.fieldAddr 3 (.t 3))⟩, ⟨none, none, (.store 1 (.t 15) (.t 14))⟩]) (.seq (.ops [⟨(some 16), none, (.fieldAddr 4 (.t 1))⟩, ⟨(some 17), none, (.load none (.t 16))⟩, ⟨(some 18), none, (.call (.c (.fn (.func 52) [])) [(.t 17)])⟩, ⟨(some 19), none, (.fieldAddr 4 (.t 3))⟩, ⟨none, none, (.store 1 (.t 19) (.t 18))⟩]) (.seq (.ops [⟨(some 20), none, (.fieldAddr 5 (.t 1))⟩, ⟨(some 21), none, (.load none (.t 20))⟩, ⟨(some 22), none, (.fieldAddr 5 (.t 3))⟩, ⟨none, none, (.store 1 (.t 22) (.t 21))⟩]) (.seq (.ops [⟨(some 23), none, (.fieldAddr 6 (.t 1))⟩, ⟨(some 24), none, (.load none (.t 23))⟩, ⟨(some 25), none, (.fieldAddr 6 (.t 3))⟩, ⟨none, none, (.store 1 (.t 25) (.t 24))⟩]) (.seq (.ops [⟨(some 26), none, (.fieldAddr 7 (.t 1))⟩, ⟨(some 27), none, (.load none (.t 26))⟩, ⟨(some 28), none, (.fieldAddr 7 (.t 3))⟩, ⟨none, none, (.store 1 (.t 28) (.t 27))⟩]) (.seq (.ops [⟨(some 29), none, (.fieldAddr 8 (.t 1))⟩, ⟨(some 30), none, (.load none (.t 29))⟩, ⟨(some 31), none, (.fieldAddr 8 (.t 3))⟩, ⟨none, none, (.store 1 (.t 31) (.t 30))⟩]) (.seq (.ops [⟨(some 32), none, (.fieldAddr 9 (.t 1))⟩, ⟨(some 33), none, (.load none (.t 32))⟩, ⟨(some 34), none, (.fieldAddr 9 (.t 3))⟩, ⟨none, none, (.store 1 (.t 34) (.t 33))⟩]) (.seq (.ops [⟨(some 35), none, (.fieldAddr 10 (.t 1))⟩, ⟨(some 36), none, (.load none (.t 35))⟩, ⟨(some 37), none, (.fieldAddr 10 (.t 3))⟩, ⟨none, none, (.store 1 (.t 37) (.t 36))⟩]) (.seq (.ops [⟨(some 38), none, (.load (some 11) (.t 3))⟩, ⟨none, none, (.store 11 (.t 2) (.t 38))⟩]) .ret))))))))))))))
theorem k_laws_toGateField : comp Tryd.prog 39 (Tryd.f112.body.getD .skip) = some c_laws_toGateField := by kernel_rfl

theorem toGateField : ToLOk Tryd.prog 112 shGateField := by
  rintro ts σ ht h1
  obtain ⟨n0, n1, n2, n3, n4, n5, n6, n7, n8, n9, n10, rfl, b0, b1, b2, b3, b4, b5, b6, b9, b10⟩ := isGateField ht
  rw [sizeGateField] at h1
  refine acalls_of Tryd.func112 (by decide +kernel) (code := Tryd.f112.body.getD .skip) (n := 39) (c := c_laws_toGateField) (rs := [(.cell 2 (some 11))]) rfl rfl k_laws_toGateField (by kernel_rfl) (by simp) (fun hσ => ?_)
  simp -implicitDefEqProofs only [c_laws_toGateField, S0, S1, S2, S3, S4, S5, S6, S7, S8, S9, S10, S11, S12, S13, S14, S15, S16, S17, opv, opvs, eget, env0, setD, lenStr, lenSl, isNilP, isNilS, putAt, if_true, if_false, reduceCtorEq, Nat.reduceLeDiff, Nat.reduceEqDiff, Nat.reduceSub, Nat.reduceMul, Nat.reduceAdd]
  refine call_by (by rw [List.append_nil]; exact toStringS n4 _ b4 (by omega)) ?_
  rintro u4 σ' ⟨τ4, j4, rfl, o4, w4⟩
  have e4 := o4.one
  simp -implicitDefEqProofs only [one_cells e4, e4, S0, S1, S2, S3, S4, S5, S6, S7, S8, S9, S10, S11, S12, S13, S14, S15, S16, S17, opv, opvs, eget, env0, setD, lenStr, lenSl, isNilP, isNilS, putAt, if_true, if_false, reduceCtorEq, Nat.reduceLeDiff, Nat.reduceEqDiff, Nat.reduceSub, Nat.reduceMul, Nat.reduceAdd]
  refine fin_keep (by simp) ⟨_, _, (j4 ++ []), rfl, rfl, (OwnL.str (OwnL.int (OwnL.int (OwnL.int (OwnL.lst (own_pre (A := [_, _, _]) (A' := [_, _, _]) (B := τ4) (B' := τ4) o4 w4 (List.append_assoc ..) rfl rfl (by simp) (by simp)) (OwnL.str (OwnL.int (OwnL.bool (OwnL.bool (OwnL.str (OwnL.str OwnL.nil0))))))))))), ?_⟩
  simp only [List.length_append, List.length_cons, List.length_nil] at w4 ⊢
  refine Wi.mono (a := σ.length) ?_ (Nat.le_refl _) (Nat.le_refl _)
  exact wi_last w4 (by omega) (by omega)
theorem toGateField_x {n0} {n1} {n2} {n3} {n4} {n5} {n6} {n7} {n8} {n9} {n10} (σ : Store) (b0 : n0.length ≤ maxLen) (b1 : (Lit.int .i64 n1).wf = true) (b2 : (Lit.int .i64 n2).wf = true) (b3 : (Lit.int .i64 n3).wf = true) (b4 : T.is (.sl 1 [.str]) n4) (b5 : n5.length ≤ maxLen) (b6 : (Lit.int .i64 n6).wf = true) (b9 : n9.length ≤ maxLen) (b10 : n10.length ≤ maxLen) (hz : n0.length + n4.size + n5.length + n9.length + n10.length ≤ 1048576) : ACalls Tryd.prog 112 [.agg [.t (.str n0), .t (.int .i64 n1), .t (.int .i64 n2), .t (.int .i64 n3), .t n4, .t (.str n5), .t (.int .i64 n6), .t (.bool n7), .t (.bool n8), .t (.str n9), .t (.str n10)]] σ (ToLR [(.str n0), (.int .i64 n1), (.int .i64 n2), (.int .i64 n3), n4, (.str n5), (.int .i64 n6), (.bool n7), (.bool n8), (.str n9), (.str n10)] σ) := by
  have h := toGateField [(.str n0), (.int .i64 n1), (.int .i64 n2), (.int .i64 n3), n4, (.str n5), (.int .i64 n6), (.bool n7), (.bool n8), (.str n9), (.str n10)] σ (mkGateField b0 b1 b2 b3 b4 b5 b6 b9 b10) (by rw [sizeGateField]; omega)
  exact h
theorem i_szGateFieldS : Is Tryd.prog 78 27 [(.tmp 4)] (tSzS 11 109) := ⟨_, _, Tryd.func78, by decide +kernel, rfl, rfl, by kernel_rfl, rfl⟩
theorem szGateFieldS : SzOk Tryd.prog 78 (.sl 11 shGateField) := szS_ok rfl i_szGateFieldS szGateField
theorem i_eqGateFieldS : Is Tryd.prog 90 27 [(.tmp 4)] (tEqS 11 119) := ⟨_, _, Tryd.func90, by decide +kernel, rfl, rfl, by kernel_rfl, rfl⟩
theorem eqGateFieldS : EqOk Tryd.prog 90 (.sl 11 shGateField) := eqS_ok rfl i_eqGateFieldS eqGateField
theorem i_toGateFieldS : Is Tryd.prog 84 23 [(.tmp 2)] (tToS 11 128 112 [.t (.str []), .t (.int .i64 0), .t (.int .i64 0), .t (.int .i64 0), .nils, .t (.str []), .t (.int .i64 0), .t (.bool false), .t (.bool false), .t (.str []), .t (.str [])]) := ⟨_, _, Tryd.func84, by decide +kernel, rfl, rfl, by kernel_rfl, rfl⟩
theorem toGateFieldS : ToOk Tryd.prog 84 (.sl 11 shGateField) := toS_ok 128 [.t (.str []), .t (.int .i64 0), .t (.int .i64 0), .t (.int .i64 0), .nils, .t (.str []), .t (.int .i64 0), .t (.bool false), .t (.bool false), .t (.str []), .t (.str [])] rfl (by decide) rfl (by decide) i_toGateFieldS toGateField
def shGateShape : List Sh := [.str, .sl 11 shGateField]
theorem isGateShape {ts : List T} (ht : T.isL shGateShape ts) : ∃ n0 n1, ts = [(.str n0), n1] ∧ n0.length ≤ maxLen ∧ T.is (.sl 11 shGateField) n1 := by
  simp only [shGateShape, isL_cons, isL_nil, is_int, is_bool, is_str] at ht
  obtain ⟨_, _, rfl, ⟨n0, rfl, b0⟩, n1, _, rfl, b1, rfl⟩ := ht
  exact ⟨_, _, rfl, b0, b1⟩
theorem mkGateShape {n0} {n1} (b0 : n0.length ≤ maxLen) (b1 : T.is (.sl 11 shGateField) n1) : T.isL shGateShape [(.str n0), n1] := by
  simp only [shGateShape, isL_cons, isL_nil, is_int, is_bool, is_str]
  exact ⟨_, _, rfl, ⟨_, rfl, b0⟩, _, _, rfl, b1, rfl⟩
theorem sizeGateShape {n0} {n1} : T.sizeL [(.str n0), n1] = n0.length + n1.size := by
  simp only [sizeL_cons, sizeL_nil, size_int, size_bool, size_str]
  try omega
def c_laws_szGateShape : C := (.seq (.ops [⟨(some 2), none, (.box (.t 0))⟩, ⟨(some 4), none, (.mv (.c (.t (.int .i64 0))))⟩]) (.seq (.ops [⟨(some 5), none, (.mv (.t 1))⟩, ⟨(some 6), none, (.fieldAddr 0 (.t 2))⟩, ⟨(some 7), none, (.load none (.t 6))⟩, ⟨(some 8), none, (.len true (.t 7))⟩, ⟨(some 9), none, (.bin .sub (.t 5) (.t 8))⟩, ⟨(some 1), none, (.mv (.t 9))⟩]) (.seq (.seq (.ops [⟨(some 10), none, (.mv (.t 1))⟩, ⟨(some 11), none, (.bin .lss (.t 10) (.c (.t (.int .i64 0))))⟩]) (.cond (.t 11) (.seq (.ops [⟨(some 4), none, (.mv (.c (.t (.int .i64 (-1)))))⟩]) .ret) .skip)) (.seq (.ops [⟨(some 12), none, (.fieldAddr 1 (.t 2))⟩, ⟨(some 13), none, (.load none (.t 12))⟩, ⟨(some 14), none, (.mv (.t 1))⟩, ⟨(some 15), none, (.call (.c (.fn (.func 78) [])) [(.t 13), (.t 14)])⟩, ⟨(some 1), none, (.mv (.t 15))⟩]) (.seq (.seq (.ops [⟨(some 16), none, (.mv (.t 1))⟩, ⟨(some 17), none, (.bin .lss (.t 16) (.c (.t (.int .i64 0))))⟩]) (.cond (.t 17) (.seq (.ops [⟨(some 4), none, (.mv (.c (.t (.int .i64 (-1)))))⟩]) .ret) .skip)) (.seq (.ops [⟨(some 18), none, (.mv (.t 1))⟩, ⟨(some 4), none, (.mv (.t 18))⟩]) .ret))))))
theorem k_laws_szGateShape : comp Tryd.prog 19 (Tryd.f47.body.getD .skip) = some c_laws_szGateShape := by kernel_rfl

theorem szGateShape : SzLOk Tryd.prog 47 shGateShape := by
  rintro ts left σ ht h0 h1
  obtain ⟨n0, n1, rfl, b0, b1⟩ := isGateShape ht
  refine acalls_of Tryd.func47 (by decide +kernel) (code := Tryd.f47.body.getD .skip) (n := 19) (c := c_laws_szGateShape) (rs := [(.tmp 4)]) rfl rfl k_laws_szGateShape (by kernel_rfl) (by simp) (fun hσ => ?_)
  try simp only [maxLen] at *
  have fin : ∀ {n : Int} {τ : Store}, n ≤ left → (0 ≤ n → ((n0.length + n1.size : Nat) : Int) + n ≤ left) → retV σ.length (SzR (T.sizeL [(.str n0), n1]) left σ) (σ ++ τ) (some [.t (.int .i64 n)]) := fun h h' => ret_same rfl hσ rfl ⟨⟨_, rfl, h, fun h0 => by have := h' h0; rw [sizeGateShape]; exact this⟩, rfl⟩
  have w0 : IntKind.i64.wrap (left - n0.length) = left - n0.length := IntWalk.i64_in _ (by omega)
  simp -implicitDefEqProofs only [c_laws_szGateShape, w0, S0, S1, S2, S3, S4, S5, S6, S7, S8, S9, S10, S11, S12, S13, S14, S15, S16, S17, opv, opvs, eget, env0, setD, lenStr, lenSl, isNilP, isNilS, putAt, if_true, if_false, reduceCtorEq, Nat.reduceLeDiff, Nat.reduceEqDiff, Nat.reduceSub, Nat.reduceMul, Nat.reduceAdd]
  refine cond_split (fun h => ?_) (fun h => ?_)
  · simp -implicitDefEqProofs only [S0, S1, S2, S3, S4, S5, S6, S7, S8, S9, S10, S11, S12, S13, S14, S15, S16, S17, opv, opvs, eget, env0, setD, lenStr, lenSl, isNilP, isNilS, putAt, if_true, if_false, reduceCtorEq, Nat.reduceLeDiff, Nat.reduceEqDiff, Nat.reduceSub, Nat.reduceMul, Nat.reduceAdd]
    simp only [decide_eq_true_eq] at h
    exact fin (by omega) (by omega)
  simp only [decide_eq_false_iff_not, Int.not_lt] at h
  simp -implicitDefEqProofs only [S0, S1, S2, S3, S4, S5, S6, S7, S8, S9, S10, S11, S12, S13, S14, S15, S16, S17, opv, opvs, eget, env0, setD, lenStr, lenSl, isNilP, isNilS, putAt, if_true, if_false, reduceCtorEq, Nat.reduceLeDiff, Nat.reduceEqDiff, Nat.reduceSub, Nat.reduceMul, Nat.reduceAdd]
  refine call_by (by rw [List.append_nil]; exact szGateFieldS n1 (left - n0.length) _ b1 (by omega) (by omega)) ?_
  rintro r σ' ⟨⟨m1, rfl, hm1, hs1⟩, rfl⟩
  try simp only [sizeGateShape] at hs1
  simp -implicitDefEqProofs only [S0, S1, S2, S3, S4, S5, S6, S7, S8, S9, S10, S11, S12, S13, S14, S15, S16, S17, opv, opvs, eget, env0, setD, lenStr, lenSl, isNilP, isNilS, putAt, if_true, if_false, reduceCtorEq, Nat.reduceLeDiff, Nat.reduceEqDiff, Nat.reduceSub, Nat.reduceMul, Nat.reduceAdd]
  refine cond_split (fun h => ?_) (fun h => ?_)
  · simp -implicitDefEqProofs only [S0, S1, S2, S3, S4, S5, S6, S7, S8, S9, S10, S11, S12, S13, S14, S15, S16, S17, opv, opvs, eget, env0, setD, lenStr, lenSl, isNilP, isNilS, putAt, if_true, if_false, reduceCtorEq, Nat.reduceLeDiff, Nat.reduceEqDiff, Nat.reduceSub, Nat.reduceMul, Nat.reduceAdd]
    simp only [decide_eq_true_eq] at h
    exact fin (by omega) (by omega)
  simp only [decide_eq_false_iff_not, Int.not_lt] at h
  replace hs1 := hs1 h
  simp -implicitDefEqProofs only [S0, S1, S2, S3, S4, S5, S6, S7, S8, S9, S10, S11, S12, S13, S14, S15, S16, S17, opv, opvs, eget, env0, setD, lenStr, lenSl, isNilP, isNilS, putAt, if_true, if_false, reduceCtorEq, Nat.reduceLeDiff, Nat.reduceEqDiff, Nat.reduceSub, Nat.reduceMul, Nat.reduceAdd]
  exact fin (by omega) (fun _ => by omega)
theorem szGateShape_x {n0} {n1} (left : Int) (σ : Store) (b0 : n0.length ≤ maxLen) (b1 : T.is (.sl 11 shGateField) n1) (h0 : 0 ≤ left) (h1 : left ≤ 1048576) : ACalls Tryd.prog 47 [.agg [.t (.str n0), .t n1], .t (.int .i64 left)] σ (SzR (T.sizeL [(.str n0), n1]) left σ) := by
  have h := szGateShape [(.str n0), n1] left σ (mkGateShape b0 b1) h0 h1
  exact h
def c_laws_eqGateShape : C := (.seq (.ops [⟨(some 2), none, (.box (.t 0))⟩, ⟨(some 3), none, (.box (.t 1))⟩, ⟨(some 4), none, (.mv (.c (.t (.bool false))))⟩]) (.seq (.seq (.ops [⟨(some 5), none, (.fieldAddr 0 (.t 2))⟩, ⟨(some 6), none, (.load none (.t 5))⟩, ⟨(some 7), none, (.fieldAddr 0 (.t 3))⟩, ⟨(some 8), none, (.load none (.t 7))⟩, ⟨(some 9), none, (.bin .neq (.t 6) (.t 8))⟩]) (.cond (.t 9) (.seq (.ops [⟨(some 4), none, (.mv (.c (.t (.bool false))))⟩]) .ret) .skip)) (.seq (.seq (.ops [⟨(some 10), none, (.fieldAddr 1 (.t 2))⟩, ⟨(some 11), none, (.load none (.t 10))⟩, ⟨(some 12), none, (.fieldAddr 1 (.t 3))⟩, ⟨(some 13), none, (.load none (.t 12))⟩, ⟨(some 14), none, (.call (.c (.fn (.func 90) [])) [(.t 11), (.t 13)])⟩, ⟨(some 15), none, (.un .not (.t 14))⟩]) (.cond (.t 15) (.seq (.ops [⟨(some 4), none, (.mv (.c (.t (.bool false))))⟩]) .ret) .skip)) (.seq (.ops [⟨(some 4), none, (.mv (.c (.t (.bool true))))⟩]) .ret))))
theorem k_laws_eqGateShape : comp Tryd.prog 16 (Tryd.f56.body.getD .skip) = some c_laws_eqGateShape := by kernel_rfl

theorem eqGateShape : EqLOk Tryd.prog 56 shGateShape := by
  rintro ts σ ht h1
  obtain ⟨n0, n1, rfl, b0, b1⟩ := isGateShape ht
  rw [sizeGateShape] at h1
  refine acalls_of Tryd.func56 (by decide +kernel) (code := Tryd.f56.body.getD .skip) (n := 16) (c := c_laws_eqGateShape) (rs := [(.tmp 4)]) rfl rfl k_laws_eqGateShape (by kernel_rfl) (by simp) (fun hσ => ?_)
  simp -implicitDefEqProofs only [c_laws_eqGateShape, ne_self, beq_self_eq_true, S0, S1, S2, S3, S4, S5, S6, S7, S8, S9, S10, S11, S12, S13, S14, S15, S16, S17, opv, opvs, eget, env0, setD, lenStr, lenSl, isNilP, isNilS, putAt, if_true, if_false, reduceCtorEq, Nat.reduceLeDiff, Nat.reduceEqDiff, Nat.reduceSub, Nat.reduceMul, Nat.reduceAdd]
  refine call_pure (eqGateFieldS n1 _ b1 (by omega)) ?_
  simp -implicitDefEqProofs only [ne_self, beq_self_eq_true, S0, S1, S2, S3, S4, S5, S6, S7, S8, S9, S10, S11, S12, S13, S14, S15, S16, S17, opv, opvs, eget, env0, setD, lenStr, lenSl, isNilP, isNilS, putAt, if_true, if_false, reduceCtorEq, Nat.reduceLeDiff, Nat.reduceEqDiff, Nat.reduceSub, Nat.reduceMul, Nat.reduceAdd]
  exact ret_same rfl hσ rfl ⟨rfl, rfl⟩
theorem eqGateShape_x {n0} {n1} (σ : Store) (b0 : n0.length ≤ maxLen) (b1 : T.is (.sl 11 shGateField) n1) (hz : n0.length + n1.size ≤ 1099511627776) : ACalls Tryd.prog 56 [.agg [.t (.str n0), .t n1], .agg [.t (.str n0), .t n1]] σ (TrueR σ) := by
  have h := eqGateShape [(.str n0), n1] σ (mkGateShape b0 b1) (by rw [sizeGateShape]; omega)
  exact h
def c_laws_toGateShape : C := (.seq (.ops [⟨(some 1), none, (.box (.t 0))⟩, ⟨(some 2), none, (.new [(.t (.str [])), .nils])⟩]) (.seq (.ops [⟨(some 3), none, (.new [(.t (.str [])), .nils])⟩]) (.seq (.ops [⟨(some 4), none, (.fieldAddr 0 (.t 1))⟩, ⟨(some 5), none, (.load none (.t 4))⟩, ⟨(some 6), none, (.fieldAddr 0 (.t 3))⟩, ⟨none, none, (.store 1 (.t 6) (.t 5))⟩]) (.seq (.ops [⟨(some 7), none, (.fieldAddr 1 (.t 1))⟩, ⟨(some 8), none, (.load none (.t 7))⟩, ⟨(some 9), none, (.call (.c (.fn (.func 84) [])) [(.t 8)])⟩, ⟨(some 10), none, (.fieldAddr 1 (.t 3))⟩, ⟨none, none, (.store 1 (.t 10) (.t 9))⟩]) (.seq (.ops [⟨(some 11), none, (.load (some 2) (.t 3))⟩, ⟨none, none, (.store 2 (.t 2) (.t 11))⟩]) .ret)))))
theorem k_laws_toGateShape : comp Tryd.prog 12 (Tryd.f51.body.getD .skip) = some c_laws_toGateShape := by kernel_rfl

theorem toGateShape : ToLOk Tryd.prog 51 shGateShape := by
  rintro ts σ ht h1
  obtain ⟨n0, n1, rfl, b0, b1⟩ := isGateShape ht
  rw [sizeGateShape] at h1
  refine acalls_of Tryd.func51 (by decide +kernel) (code := Tryd.f51.body.getD .skip) (n := 12) (c := c_laws_toGateShape) (rs := [(.cell 2 (some 2))]) rfl rfl k_laws_toGateShape (by kernel_rfl) (by simp) (fun hσ => ?_)
  simp -implicitDefEqProofs only [c_laws_toGateShape, S0, S1, S2, S3, S4, S5, S6, S7, S8, S9, S10, S11, S12, S13, S14, S15, S16, S17, opv, opvs, eget, env0, setD, lenStr, lenSl, isNilP, isNilS, putAt, if_true, if_false, reduceCtorEq, Nat.reduceLeDiff, Nat.reduceEqDiff, Nat.reduceSub, Nat.reduceMul, Nat.reduceAdd]
  refine call_by (by rw [List.append_nil]; exact toGateFieldS n1 _ b1 (by omega)) ?_
  rintro u1 σ' ⟨τ1, j1, rfl, o1, w1⟩
  have e1 := o1.one
  simp -implicitDefEqProofs only [one_cells e1, e1, S0, S1, S2, S3, S4, S5, S6, S7, S8, S9, S10, S11, S12, S13, S14, S15, S16, S17, opv, opvs, eget, env0, setD, lenStr, lenSl, isNilP, isNilS, putAt, if_true, if_false, reduceCtorEq, Nat.reduceLeDiff, Nat.reduceEqDiff, Nat.reduceSub, Nat.reduceMul, Nat.reduceAdd]
  refine fin_keep (by simp) ⟨_, _, (j1 ++ []), rfl, rfl, (OwnL.str (OwnL.lst (own_pre (A := [_, _, _]) (A' := [_, _, _]) (B := τ1) (B' := τ1) o1 w1 (List.append_assoc ..) rfl rfl (by simp) (by simp)) OwnL.nil0)), ?_⟩
  simp only [List.length_append, List.length_cons, List.length_nil] at w1 ⊢
  refine Wi.mono (a := σ.length) ?_ (Nat.le_refl _) (Nat.le_refl _)
  exact wi_last w1 (by omega) (by omega)
theorem toGateShape_x {n0} {n1} (σ : Store) (b0 : n0.length ≤ maxLen) (b1 : T.is (.sl 11 shGateField) n1) (hz : n0.length + n1.size ≤ 1048576) : ACalls Tryd.prog 51 [.agg [.t (.str n0), .t n1]] σ (ToLR [(.str n0), n1] σ) := by
  have h := toGateShape [(.str n0), n1] σ (mkGateShape b0 b1) (by rw [sizeGateShape]; omega)
  exact h
theorem i_szGateShapeS : Is Tryd.prog 19 27 [(.tmp 4)] (tSzS 2 47) := ⟨_, _, Tryd.func19, by decide +kernel, rfl, rfl, by kernel_rfl, rfl⟩
theorem szGateShapeS : SzOk Tryd.prog 19 (.sl 2 shGateShape) := szS_ok rfl i_szGateShapeS szGateShape
theorem i_eqGateShapeS : Is Tryd.prog 25 27 [(.tmp 4)] (tEqS 2 56) := ⟨_, _, Tryd.func25, by decide +kernel, rfl, rfl, by kernel_rfl, rfl⟩
theorem eqGateShapeS : EqOk Tryd.prog 25 (.sl 2 shGateShape) := eqS_ok rfl i_eqGateShapeS eqGateShape
theorem i_toGateShapeS : Is Tryd.prog 22 23 [(.tmp 2)] (tToS 2 40 51 [.t (.str []), .nils]) := ⟨_, _, Tryd.func22, by decide +kernel, rfl, rfl, by kernel_rfl, rfl⟩
theorem toGateShapeS : ToOk Tryd.prog 22 (.sl 2 shGateShape) := toS_ok 40 [.t (.str []), .nils] rfl (by decide) rfl (by decide) i_toGateShapeS toGateShape
def shGateObject : List Sh := [.str, .str, .str, .sl 1 [.str], .bool, .sl 1 [.str], .int .i64]
theorem isGateObject {ts : List T} (ht : T.isL shGateObject ts) : ∃ n0 n1 n2 n3 n4 n5 n6, ts = [(.str n0), (.str n1), (.str n2), n3, (.bool n4), n5, (.int .i64 n6)] ∧ n0.length ≤ maxLen ∧ n1.length ≤ maxLen ∧ n2.length ≤ maxLen ∧ T.is (.sl 1 [.str]) n3 ∧ T.is (.sl 1 [.str]) n5 ∧ (Lit.int .i64 n6).wf = true := by
  simp only [shGateObject, isL_cons, isL_nil, is_int, is_bool, is_str] at ht
  obtain ⟨_, _, rfl, ⟨n0, rfl, b0⟩, _, _, rfl, ⟨n1, rfl, b1⟩, _, _, rfl, ⟨n2, rfl, b2⟩, n3, _, rfl, b3, _, _, rfl, ⟨n4, rfl⟩, n5, _, rfl, b5, _, _, rfl, ⟨n6, rfl, b6⟩, rfl⟩ := ht
  exact ⟨_, _, _, _, _, _, _, rfl, b0, b1, b2, b3, b5, b6⟩
theorem mkGateObject {n0} {n1} {n2} {n3} {n4} {n5} {n6} (b0 : n0.length ≤ maxLen) (b1 : n1.length ≤ maxLen) (b2 : n2.length ≤ maxLen) (b3 : T.is (.sl 1 [.str]) n3) (b5 : T.is (.sl 1 [.str]) n5) (b6 : (Lit.int .i64 n6).wf = true) : T.isL shGateObject [(.str n0), (.str n1), (.str n2), n3, (.bool n4), n5, (.int .i64 n6)] := by
  simp only [shGateObject, isL_cons, isL_nil, is_int, is_bool, is_str]
  exact ⟨_, _, rfl, ⟨_, rfl, b0⟩, _, _, rfl, ⟨_, rfl, b1⟩, _, _, rfl, ⟨_, rfl, b2⟩, _, _, rfl, b3, _, _, rfl, ⟨_, rfl⟩, _, _, rfl, b5, _, _, rfl, ⟨_, rfl, b6⟩, rfl⟩
theorem sizeGateObject {n0} {n1} {n2} {n3} {n4} {n5} {n6} : T.sizeL [(.str n0), (.str n1), (.str n2), n3, (.bool n4), n5, (.int .i64 n6)] = n0.length + n1.length + n2.length + n3.size + n5.size := by
  simp only [sizeL_cons, sizeL_nil, size_int, size_bool, size_str]
  try omega
def c_laws_szGateObject : C := (.seq (.ops [⟨(some 2), none, (.box (.t 0))⟩, ⟨(some 4), none, (.mv (.c (.t (.int .i64 0))))⟩]) (.seq (.ops [⟨(some 5), none, (.mv (.t 1))⟩, ⟨(some 6), none, (.fieldAddr 0 (.t 2))⟩, ⟨(some 7), none, (.load none (.t 6))⟩, ⟨(some 8), none, (.len true (.t 7))⟩, ⟨(some 9), none, (.bin .sub (.t 5) (.t 8))⟩, ⟨(some 1), none, (.mv (.t 9))⟩]) (.seq (.seq (.ops [⟨(some 10), none, (.mv (.t 1))⟩, ⟨(some 11), none, (.bin .lss (.t 10) (.c (.t (.int .i64 0))))⟩]) (.cond (.t 11) (.seq (.ops [⟨(some 4), none, (.mv (.c (.t (.int .i64 (-1)))))⟩]) .ret) .skip)) (.seq (.ops [⟨(some 12), none, (.mv (.t 1))⟩, ⟨(some 13), none, (.fieldAddr 1 (.t 2))⟩, ⟨(some 14), none, (.load none (.t 13))⟩, ⟨(some 15), none, (.len true (.t 14))⟩, ⟨(some 16), none, (.bin .sub (.t 12) (.t 15))⟩, ⟨(some 1), none, (.mv (.t 16))⟩]) (.seq (.seq (.ops [⟨(some 17), none, (.mv (.t 1))⟩, ⟨(some 18), none, (.bin .lss (.t 17) (.c (.t (.int .i64 0))))⟩]) (.cond (.t 18) (.seq (.ops [⟨(some 4), none, (.mv (.c (.t (.int .i64 (-1)))))⟩]) .ret) .skip)) (.seq (.ops [⟨(some 19), none, (.mv (.t 1))⟩, ⟨(some 20), none, (.fieldAddr 2 (.t 2))⟩, ⟨(some 21), none, (.load none (.t 20))⟩, ⟨(some 22), none, (.len true (.t 21))⟩, ⟨(some 23), none, (.bin .sub (.t 19) (.t 22))⟩, ⟨(some 1), none, (.mv (.t 23))⟩]) (.seq (.seq (.ops [⟨(some 24), none, (.mv (.t 1))⟩, ⟨(some 25), none, (.bin .lss (.t 24) (.c (.t (.int .i64 0))))⟩]) (.cond (.t 25) (.seq (.ops [⟨(some 4), none, (.mv (.c (.t (.int .i64 (-1)))))⟩]) .ret) .skip)) (.seq (.ops [⟨(some 26), none, (.fieldAddr 3 (.t 2))⟩, ⟨(some 27), none, (.load none (.t 26))⟩, ⟨(some 28), none, (.mv (.t 1))⟩, ⟨(some 29), none, (.call (.c (.fn (.func 48) [])) [(.t 27), (.t 28)])⟩, ⟨(some 1), none, (.mv (.t 29))⟩]) (.seq (.seq (.ops [⟨(some 30), none, (.mv (.t 1))⟩, ⟨(some 31), none, (.bin .lss (.t 30) (.c (.t (.int .i64 0))))⟩]) (.cond (.t 31) (.seq (.ops [⟨(some 4), none, (.mv (.c (.t (.int .i64 (-1)))))⟩]) .ret) .skip)) (.seq (.ops [⟨(some 32), none, (.fieldAddr 5 (.t 2))⟩, ⟨(some 33), none, (.load none (.t 32))⟩, ⟨(some 34), none, (.mv (.t 1))⟩, ⟨(some 35), none, (.call (.c (.fn (.func 48) [])) [(.t 33), (.t 34)])⟩, ⟨(some 1), none, (.mv (.t 35))⟩]) (.seq (.seq (.ops [⟨(some 36), none, (.mv (.t 1))⟩, ⟨(some 37), none, (.bin .lss (.t 36) (.c (.t (.int .i64 0))))⟩]) (.cond (.t 37) (.seq (.ops [⟨(some 4), none, (.mv (.c (.t (.int .i64 (-1)))))⟩]) .ret) .skip)) (.seq (.ops [⟨(some 38), none, (.mv (.t 1))⟩, ⟨(some 4), none, (.mv (.t 38))⟩]) .ret))))))))))))
theorem k_laws_szGateObject : comp Tryd.prog 39 (Tryd.f20.body.getD .skip) = some c_laws_szGateObject := by kernel_rfl

theorem szGateObject : SzLOk Tryd.prog 20 shGateObject := by
  rintro ts left σ ht h0 h1
  obtain ⟨n0, n1, n2, n3, n4, n5, n6, rfl, b0, b1, b2, b3, b5, b6⟩ := isGateObject ht
  refine acalls_of Tryd.func20 (by decide +kernel) (code := Tryd.f20.body.getD .skip) (n := 39) (c := c_laws_szGateObject) (rs := [(.tmp 4)]) rfl rfl k_laws_szGateObject (by kernel_rfl) (by simp) (fun hσ => ?_)
  try simp only [maxLen] at *
  have fin : ∀ {n : Int} {τ : Store}, n ≤ left → (0 ≤ n → ((n0.length + n1.length + n2.length + n3.size + n5.size : Nat) : Int) + n ≤ left) → retV σ.length (SzR (T.sizeL [(.str n0), (.str n1), (.str n2), n3, (.bool n4), n5, (.int .i64 n6)]) left σ) (σ ++ τ) (some [.t (.int .i64 n)]) := fun h h' => ret_same rfl hσ rfl ⟨⟨_, rfl, h, fun h0 => by have := h' h0; rw [sizeGateObject]; exact this⟩, rfl⟩
  have w0 : IntKind.i64.wrap (left - n0.length) = left - n0.length := IntWalk.i64_in _ (by omega)
  simp -implicitDefEqProofs only [c_laws_szGateObject, w0, S0, S1, S2, S3, S4, S5, S6, S7, S8, S9, S10, S11, S12, S13, S14, S15, S16, S17, opv, opvs, eget, env0, setD, lenStr, lenSl, isNilP, isNilS, putAt, if_true, if_false, reduceCtorEq, Nat.reduceLeDiff, Nat.reduceEqDiff, Nat.reduceSub, Nat.reduceMul, Nat.reduceAdd]
  refine cond_split (fun h => ?_) (fun h => ?_)
  · simp -implicitDefEqProofs only [S0, S1, S2, S3, S4, S5, S6, S7, S8, S9, S10, S11, S12, S13, S14, S15, S16, S17, opv, opvs, eget, env0, setD, lenStr, lenSl, isNilP, isNilS, putAt, if_true, if_false, reduceCtorEq, Nat.reduceLeDiff, Nat.reduceEqDiff, Nat.reduceSub, Nat.reduceMul, Nat.reduceAdd]
    simp only [decide_eq_true_eq] at h
    exact fin (by omega) (by omega)
  simp only [decide_eq_false_iff_not, Int.not_lt] at h
  have w1 : IntKind.i64.wrap ((left - n0.length) - n1.length) = (left - n0.length) - n1.length := IntWalk.i64_in _ (by omega)
  simp -implicitDefEqProofs only [w1, S0, S1, S2, S3, S4, S5, S6, S7, S8, S9, S10, S11, S12, S13, S14, S15, S16, S17, opv, opvs, eget, env0, setD, lenStr, lenSl, isNilP, isNilS, putAt, if_true, if_false, reduceCtorEq, Nat.reduceLeDiff, Nat.reduceEqDiff, Nat.reduceSub, Nat.reduceMul, Nat.reduceAdd]
  refine cond_split (fun h => ?_) (fun h => ?_)
  · simp -implicitDefEqProofs only [S0, S1, S2, S3, S4, S5, S6, S7, S8, S9, S10, S11, S12, S13, S14, S15, S16, S17, opv, opvs, eget, env0, setD, lenStr, lenSl, isNilP, isNilS, putAt, if_true, if_false, reduceCtorEq, Nat.reduceLeDiff, Nat.reduceEqDiff, Nat.reduceSub, Nat.reduceMul, Nat.reduceAdd]
    simp only [decide_eq_true_eq] at h
    exact fin (by omega) (by omega)
  simp only [decide_eq_false_iff_not, Int.not_lt] at h
  have w2 : IntKind.i64.wrap (((left - n0.length) - n1.length) - n2.length) = ((left - n0.length) - n1.length) - n2.length := IntWalk.i64_in _ (by omega)
  simp -implicitDefEqProofs only [w2, S0, S1, S2, S3, S4, S5, S6, S7, S8, S9, S10, S11, S12, S13, S14, S15, S16, S17, opv, opvs, eget, env0, setD, lenStr, lenSl, isNilP, isNilS, putAt, if_true, if_false, reduceCtorEq, Nat.reduceLeDiff, Nat.reduceEqDiff, Nat.reduceSub, Nat.reduceMul, Nat.reduceAdd]
  refine cond_split (fun h => ?_) (fun h => ?_)
  · simp -implicitDefEqProofs only [S0, S1, S2, S3, S4, S5, S6, S7, S8, S9, S10, S11, S12, S13, S14, S15, S16, S17, opv, opvs, eget, env0, setD, lenStr, lenSl, isNilP, isNilS, putAt, if_true, if_false, reduceCtorEq, Nat.reduceLeDiff, Nat.reduceEqDiff, Nat.reduceSub, Nat.reduceMul, Nat.reduceAdd]
    simp only [decide_eq_true_eq] at h
    exact fin (by omega) (by omega)
  simp only [decide_eq_false_iff_not, Int.not_lt] at h
  simp -implicitDefEqProofs only [S0, S1, S2, S3, S4, S5, S6, S7, S8, S9, S10, S11, S12, S13, S14, S15, S16, S17, opv, opvs, eget, env0, setD, lenStr, lenSl, isNilP, isNilS, putAt, if_true, if_false, reduceCtorEq, Nat.reduceLeDiff, Nat.reduceEqDiff, Nat.reduceSub, Nat.reduceMul, Nat.reduceAdd]
  refine call_by (by rw [List.append_nil]; exact szStringS n3 (((left - n0.length) - n1.length) - n2.length) _ b3 (by omega) (by omega)) ?_
  rintro r σ' ⟨⟨m3, rfl, hm3, hs3⟩, rfl⟩
  try simp only [sizeGateObject] at hs3
  simp -implicitDefEqProofs only [S0, S1, S2, S3, S4, S5, S6, S7, S8, S9, S10, S11, S12, S13, S14, S15, S16, S17, opv, opvs, eget, env0, setD, lenStr, lenSl, isNilP, isNilS, putAt, if_true, if_false, reduceCtorEq, Nat.reduceLeDiff, Nat.reduceEqDiff, Nat.reduceSub, Nat.reduceMul, Nat.reduceAdd]
  refine cond_split (fun h => ?_) (fun h => ?_)
  · simp -implicitDefEqProofs only [S0, S1, S2, S3, S4, S5, S6, S7, S8, S9, S10, S11, S12, S13, S14, S15, S16, S17, opv, opvs, eget, env0, setD, lenStr, lenSl, isNilP, isNilS, putAt, if_true, if_false, reduceCtorEq, Nat.reduceLeDiff, Nat.reduceEqDiff, Nat.reduceSub, Nat.reduceMul, Nat.reduceAdd]
    simp only [decide_eq_true_eq] at h
    exact fin (by omega) (by omega)
  simp only [decide_eq_false_iff_not, Int.not_lt] at h
  replace hs3 := hs3 h
  simp -implicitDefEqProofs only [S0, S1, S2, S3, S4, S5, S6, S7, S8, S9, S10, S11, S12, S13, S14, S15, S16, S17, opv, opvs, eget, env0, setD, lenStr, lenSl, isNilP, isNilS, putAt, if_true, if_false, reduceCtorEq, Nat.reduceLeDiff, Nat.reduceEqDiff, Nat.reduceSub, Nat.reduceMul, Nat.reduceAdd]
  refine call_by (by rw [List.append_nil]; exact szStringS n5 m3 _ b5 (by omega) (by omega)) ?_
  rintro r σ' ⟨⟨m5, rfl, hm5, hs5⟩, rfl⟩
  try simp only [sizeGateObject] at hs5
  simp -implicitDefEqProofs only [S0, S1, S2, S3, S4, S5, S6, S7, S8, S9, S10, S11, S12, S13, S14, S15, S16, S17, opv, opvs, eget, env0, setD, lenStr, lenSl, isNilP, isNilS, putAt, if_true, if_false, reduceCtorEq, Nat.reduceLeDiff, Nat.reduceEqDiff, Nat.reduceSub, Nat.reduceMul, Nat.reduceAdd]
  refine cond_split (fun h => ?_) (fun h => ?_)
  · simp -implicitDefEqProofs only [S0, S1, S2, S3, S4, S5, S6, S7, S8, S9, S10, S11, S12, S13, S14, S15, S16, S17, opv, opvs, eget, env0, setD, lenStr, lenSl, isNilP, isNilS, putAt, if_true, if_false, reduceCtorEq, Nat.reduceLeDiff, Nat.reduceEqDiff, Nat.reduceSub, Nat.reduceMul, Nat.reduceAdd]
    simp only [decide_eq_true_eq] at h
    exact fin (by omega) (by omega)
  simp only [decide_eq_false_iff_not, Int.not_lt] at h
  replace hs5 := hs5 h
  simp -implicitDefEqProofs only [S0, S1, S2, S3, S4, S5, S6, S7, S8, S9, S10, S11, S12, S13, S14, S15, S16, S17, opv, opvs, eget, env0, setD, lenStr, lenSl, isNilP, isNilS, putAt, if_true, if_false, reduceCtorEq, Nat.reduceLeDiff, Nat.reduceEqDiff, Nat.reduceSub, Nat.reduceMul, Nat.reduceAdd]
  exact fin (by omega) (fun _ => by omega)
theorem szGateObject_x {n0} {n1} {n2} {n3} {n4} {n5} {n6} (left : Int) (σ : Store) (b0 : n0.length ≤ maxLen) (b1 : n1.length ≤ maxLen) (b2 : n2.length ≤ maxLen) (b3 : T.is (.sl 1 [.str]) n3) (b5 : T.is (.sl 1 [.str]) n5) (b6 : (Lit.int .i64 n6).wf = true) (h0 : 0 ≤ left) (h1 : left ≤ 1048576) : ACalls Tryd.prog 20 [.agg [.t (.str n0), .t (.str n1), .t (.str n2), .t n3, .t (.bool n4), .t n5, .t (.int .i64 n6)], .t (.int .i64 left)] σ (SzR (T.sizeL [(.str n0), (.str n1), (.str n2), n3, (.bool n4), n5, (.int .i64 n6)]) left σ) := by
  have h := szGateObject [(.str n0), (.str n1), (.str n2), n3, (.bool n4), n5, (.int .i64 n6)] left σ (mkGateObject b0 b1 b2 b3 b5 b6) h0 h1
  exact h
def c_laws_eqGateObject : C := (.seq (.ops [⟨(some 2), none, (.box (.t 0))⟩, ⟨(some 3), none, (.box (.t 1))⟩, ⟨(some 4), none, (.mv (.c (.t (.bool false))))⟩]) (.seq (.seq (.ops [⟨(some 5), none, (.fieldAddr 0 (.t 2))⟩, ⟨(some 6), none, (.load none (.t 5))⟩, ⟨(some 7), none, (.fieldAddr 0 (.t 3))⟩, ⟨(some 8), none, (.load none (.t 7))⟩, ⟨(some 9), none, (.bin .neq (.t 6) (.t 8))⟩]) (.cond (.t 9) (.seq (.ops [⟨(some 4), none, (.mv (.c (.t (.bool false))))⟩]) .ret) .skip)) (.seq (.seq (.ops [⟨(some 10), none, (.fieldAddr 1 (.t 2))⟩, ⟨(some 11), none, (.load none (.t 10))⟩, ⟨(some 12), none, (.fieldAddr 1 (.t 3))⟩, ⟨(some 13), none, (.load none (.t 12))⟩, ⟨(some 14), none, (.bin .neq (.t 11) (.t 13))⟩]) (.cond (.t 14) (.seq (.ops [⟨(some 4), none, (.mv (.c (.t (.bool false))))⟩]) .ret) .skip)) (.seq (.seq (.ops [⟨(some 15), none, (.fieldAddr 2 (.t 2))⟩, ⟨(some 16), none, (.load none (.t 15))⟩, ⟨(some 17), none, (.fieldAddr 2 (.t 3))⟩, ⟨(some 18), none, (.load none (.t 17))⟩, ⟨(some 19), none, (.bin .neq (.t 16) (.t 18))⟩]) (.cond (.t 19) (.seq (.ops [⟨(some 4), none, (.mv (.c (.t (.bool false))))⟩]) .ret) .skip)) (.seq (.seq (.ops [⟨(some 20), none, (.fieldAddr 3 (.t 2))⟩, ⟨(some 21), none, (.load none (.t 20))⟩, ⟨(some 22), none, (.fieldAddr 3 (.t 3))⟩, ⟨(some 23), none, (.load none (.t 22))⟩, ⟨(some 24), none, (.call (.c (.fn (.func 57) [])) [(.t 21), (.t 23)])⟩, ⟨(some 25), none, (.un .not (.t 24))⟩]) (.cond (.t 25) (.seq (.ops [⟨(some 4), none, (.mv (.c (.t (.bool false))))⟩]) .ret) .skip)) (.seq (.seq (.ops [⟨(some 26), none, (.fieldAddr 4 (.t 2))⟩, ⟨(some 27), none, (.load none (.t 26))⟩, ⟨(some 28), none, (.fieldAddr 4 (.t 3))⟩, ⟨(some 29), none, (.load none (.t 28))⟩, ⟨(some 30), none, (.eqB true (.t 27) (.t 29))⟩]) (.cond (.t 30) (.seq (.ops [⟨(some 4), none, (.mv (.c (.t (.bool false))))⟩]) .ret) .skip)) (.seq (.seq (.ops [⟨(some 31), none, (.fieldAddr 5 (.t 2))⟩, ⟨(some 32), none, (.load none (.t 31))⟩, ⟨(some 33), none, (.fieldAddr 5 (.t 3))⟩, ⟨(some 34), none, (.load none (.t 33))⟩, ⟨(some 35), none, (.call (.c (.fn (.func 57) [])) [(.t 32), (.t 34)])⟩, ⟨(some 36), none, (.un .not (.t 35))⟩]) (.cond (.t 36) (.seq (.ops [⟨(some 4), none, (.mv (.c (.t (.bool false))))⟩]) .ret) .skip)) (.seq (.seq (.ops [⟨(some 37), none, (.fieldAddr 6 (.t 2))⟩, ⟨(some 38), none, (.load none (.t 37))⟩, ⟨(some 39), none, (.fieldAddr 6 (.t 3))⟩, ⟨(some 40), none, (.load none (.t 39))⟩, ⟨(some 41), none, (.bin .neq (.t 38) (.t 40))⟩]) (.cond (.t 41) (.seq (.ops [⟨(some 4), none, (.mv (.c (.t (.bool false))))⟩]) .ret) .skip)) (.seq (.ops [⟨(some 4), none, (.mv (.c (.t (.bool true))))⟩]) .ret)))))))))
theorem k_laws_eqGateObject : comp Tryd.prog 42 (Tryd.f26.body.getD .skip) = some c_laws_eqGateObject := by kernel_rfl

theorem eqGateObject : EqLOk Tryd.prog 26 shGateObject := by
  rintro ts σ ht h1
  obtain ⟨n0, n1, n2, n3, n4, n5, n6, rfl, b0, b1, b2, b3, b5, b6⟩ := isGateObject ht
  rw [sizeGateObject] at h1
  refine acalls_of Tryd.func26 (by decide +kernel) (code := Tryd.f26.body.getD .skip) (n := 42) (c := c_laws_eqGateObject) (rs := [(.tmp 4)]) rfl rfl k_laws_eqGateObject (by kernel_rfl) (by simp) (fun hσ => ?_)
  simp -implicitDefEqProofs only [c_laws_eqGateObject, ne_self, beq_self_eq_true, S0, S1, S2, S3, S4, S5, S6, S7, S8, S9, S10, S11, S12, S13, S14, S15, S16, S17, opv, opvs, eget, env0, setD, lenStr, lenSl, isNilP, isNilS, putAt, if_true, if_false, reduceCtorEq, Nat.reduceLeDiff, Nat.reduceEqDiff, Nat.reduceSub, Nat.reduceMul, Nat.reduceAdd]
  refine call_pure (eqStringS n3 _ b3 (by omega)) ?_
  simp -implicitDefEqProofs only [ne_self, beq_self_eq_true, S0, S1, S2, S3, S4, S5, S6, S7, S8, S9, S10, S11, S12, S13, S14, S15, S16, S17, opv, opvs, eget, env0, setD, lenStr, lenSl, isNilP, isNilS, putAt, if_true, if_false, reduceCtorEq, Nat.reduceLeDiff, Nat.reduceEqDiff, Nat.reduceSub, Nat.reduceMul, Nat.reduceAdd]
  refine call_pure (eqStringS n5 _ b5 (by omega)) ?_
  simp -implicitDefEqProofs only [ne_self, beq_self_eq_true, S0, S1, S2, S3, S4, S5, S6, S7, S8, S9, S10, S11, S12, S13, S14, S15, S16, S17, opv, opvs, eget, env0, setD, lenStr, lenSl, isNilP, isNilS, putAt, if_true, if_false, reduceCtorEq, Nat.reduceLeDiff, Nat.reduceEqDiff, Nat.reduceSub, Nat.reduceMul, Nat.reduceAdd]
  exact ret_same rfl hσ rfl ⟨rfl, rfl⟩
theorem eqGateObject_x {n0} {n1} {n2} {n3} {n4} {n5} {n6} (σ : Store) (b0 : n0.length ≤ maxLen) (b1 : n1.length ≤ maxLen) (b2 : n2.length ≤ maxLen) (b3 : T.is (.sl 1 [.str]) n3) (b5 : T.is (.sl 1 [.str]) n5) (b6 : (Lit.int .i64 n6).wf = true) (hz : n0.length + n1.length + n2.length + n3.size + n5.size ≤ 1099511627776) : ACalls Tryd.prog 26 [.agg [.t (.str n0), .t (.str n1), .t (.str n2), .t n3, .t (.bool n4), .t n5, .t (.int .i64 n6)], .agg [.t (.str n0), .t (.str n1), .t (.str n2), .t n3, .t (.bool n4), .t n5, .t (.int .i64 n6)]] σ (TrueR σ) := by
  have h := eqGateObject [(.str n0), (.str n1), (.str n2), n3, (.bool n4), n5, (.int .i64 n6)] σ (mkGateObject b0 b1 b2 b3 b5 b6) (by rw [sizeGateObject]; omega)
  exact h
def c_laws_toGateObject : C := (.seq (.ops [⟨(some 1), none, (.box (.t 0))⟩, ⟨(some 2), none, (.new [(.t (.str [])), (.t (.str [])), (.t (.str [])), .nils, (.t (.bool false)), .nils, (.t (.int .i64 0))])⟩]) (.seq (.ops [⟨(some 3), none, (.new [(.t (.str [])), (.t (.str [])), (.t (.str [])), .nils, (.t (.bool false)), .nils, (.t (.int .i64 0))])⟩]) (.seq (.ops [⟨(some 4), none, (.fieldAddr 0 (.t 1))⟩, ⟨(some 5), none, (.load none (.t 4))⟩, ⟨(some 6), none, (.fieldAddr 0 (.t 3))⟩, ⟨none, none, (.store 1 (.t 6) (.t 5))⟩]) (.seq (.ops [⟨(some 7), none, (.fieldAddr 1 (.t 1))⟩, ⟨(some 8), none, (.load none (.t 7))⟩, ⟨(some 9), none, (.fieldAddr 1 (.t 3))⟩, ⟨none, none, (.store 1 (.t 9) (.t 8))⟩]) (.seq (.ops [⟨(some 10), none, (.fieldAddr 2 (.t 1))⟩, ⟨(some 11), none, (.load none (.t 10))⟩, ⟨(some 12), none, (.fieldAddr 2 (.t 3))⟩, ⟨none, none, (.store 1 (.t 12) (.t 11))⟩]) (.seq (.ops [⟨(some 13), none, (.fieldAddr 3 (.t 1))⟩, ⟨(some 14), none, (.load none (.t 13))⟩, ⟨(some 15), none, (.call (.c (.fn (.func 52) [])) [(.t 14)])⟩, ⟨(some 16), none, (.fieldAddr 3 (.t 3))⟩, ⟨none, none, (.store 1 (.t 16) (.t 15))⟩]) (.seq (.ops [⟨(some 17), none, (.fieldAddr 4 (.t 1))⟩, ⟨(some 18), none, (.load none (.t 17))⟩, ⟨(some 19), none, (.fieldAddr 4 (.t 3))⟩, ⟨none, none, (.store 1 (.t 19) (.t 18))⟩]) (.seq (.ops [⟨(some 20), none, (.fieldAddr 5 (.t 1))⟩, ⟨(some 21), none, (.load none (.t 20))⟩, ⟨(some 22), none, (.call (.c (.fn (.func 52) [])) [(.t 21)])⟩, ⟨(some 23), none, (.fieldAddr 5 (.t 3))⟩, ⟨none, none, (.store 1 (.t 23) (.t 22))⟩]) (.seq (.ops [⟨(some 24), none, (.fieldAddr 6 (.t 1))⟩, ⟨(some 25), none, (.load none (.t 24))⟩, ⟨(some 26), none, (.fieldAddr 6 (.t 3))⟩, ⟨none, none, (.store 1 (.t 26) (.t 25))⟩]) (.seq (.ops [⟨(some 27), none, (.load (some 7) (.t 3))⟩, ⟨none, none, (.store 7 (.t 2) (.t 27))⟩]) .ret))))))))))
theorem k_laws_toGateObject : comp Tryd.prog 28 (Tryd.f23.body.getD .skip) = some c_laws_toGateObject := by kernel_rfl

theorem toGateObject : ToLOk Tryd.prog 23 shGateObject := by
  rintro ts σ ht h1
  obtain ⟨n0, n1, n2, n3, n4, n5, n6, rfl, b0, b1, b2, b3, b5, b6⟩ := isGateObject ht
  rw [sizeGateObject] at h1
  refine acalls_of Tryd.func23 (by decide +kernel) (code := Tryd.f23.body.getD .skip) (n := 28) (c := c_laws_toGateObject) (rs := [(.cell 2 (some 7))]) rfl rfl k_laws_toGateObject (by kernel_rfl) (by simp) (fun hσ => ?_)
  simp -implicitDefEqProofs only [c_laws_toGateObject, S0, S1, S2, S3, S4, S5, S6, S7, S8, S9, S10, S11, S12, S13, S14, S15, S16, S17, opv, opvs, eget, env0, setD, lenStr, lenSl, isNilP, isNilS, putAt, if_true, if_false, reduceCtorEq, Nat.reduceLeDiff, Nat.reduceEqDiff, Nat.reduceSub, Nat.reduceMul, Nat.reduceAdd]
  refine call_by (by rw [List.append_nil]; exact toStringS n3 _ b3 (by omega)) ?_
  rintro u3 σ' ⟨τ3, j3, rfl, o3, w3⟩
  have e3 := o3.one
  simp -implicitDefEqProofs only [one_cells e3, e3, S0, S1, S2, S3, S4, S5, S6, S7, S8, S9, S10, S11, S12, S13, S14, S15, S16, S17, opv, opvs, eget, env0, setD, lenStr, lenSl, isNilP, isNilS, putAt, if_true, if_false, reduceCtorEq, Nat.reduceLeDiff, Nat.reduceEqDiff, Nat.reduceSub, Nat.reduceMul, Nat.reduceAdd]
  refine call_by (by rw [List.append_nil]; exact toStringS n5 _ b5 (by omega)) ?_
  rintro u5 σ' ⟨τ5, j5, rfl, o5, w5⟩
  have e5 := o5.one
  simp -implicitDefEqProofs only [one_cells e5, e3, e5, S0, S1, S2, S3, S4, S5, S6, S7, S8, S9, S10, S11, S12, S13, S14, S15, S16, S17, opv, opvs, eget, env0, setD, lenStr, lenSl, isNilP, isNilS, putAt, if_true, if_false, reduceCtorEq, Nat.reduceLeDiff, Nat.reduceEqDiff, Nat.reduceSub, Nat.reduceMul, Nat.reduceAdd]
  refine fin_keep (by simp) ⟨_, _, (j3 ++ (j5 ++ [])), rfl, rfl, (OwnL.str (OwnL.str (OwnL.str (OwnL.lst (own_pre (A := [_, _, _]) (A' := [_, _, _]) (B := τ3) (B' := (τ3 ++ τ5)) o3 w3 (List.append_assoc ..) rfl rfl (by simp) (by simp)) (OwnL.bool (OwnL.lst (own_pre (A := [_, _, _]) (A' := [_, _, _]) (B := (τ3 ++ τ5)) (B' := (τ3 ++ τ5)) o5 w5 (List.append_assoc ..) rfl rfl (by simp) (by simp)) (OwnL.int OwnL.nil0))))))), ?_⟩
  simp only [List.length_append, List.length_cons, List.length_nil] at w3 w5 ⊢
  refine Wi.mono (a := σ.length) ?_ (Nat.le_refl _) (Nat.le_refl _)
  exact wi_more w3 (wi_last w5 (by omega) (by omega)) (by omega) (by omega)
theorem toGateObject_x {n0} {n1} {n2} {n3} {n4} {n5} {n6} (σ : Store) (b0 : n0.length ≤ maxLen) (b1 : n1.length ≤ maxLen) (b2 : n2.length ≤ maxLen) (b3 : T.is (.sl 1 [.str]) n3) (b5 : T.is (.sl 1 [.str]) n5) (b6 : (Lit.int .i64 n6).wf = true) (hz : n0.length + n1.length + n2.length + n3.size + n5.size ≤ 1048576) : ACalls Tryd.prog 23 [.agg [.t (.str n0), .t (.str n1), .t (.str n2), .t n3, .t (.bool n4), .t n5, .t (.int .i64 n6)]] σ (ToLR [(.str n0), (.str n1), (.str n2), n3, (.bool n4), n5, (.int .i64 n6)] σ) := by
  have h := toGateObject [(.str n0), (.str n1), (.str n2), n3, (.bool n4), n5, (.int .i64 n6)] σ (mkGateObject b0 b1 b2 b3 b5 b6) (by rw [sizeGateObject]; omega)
  exact h
end Go.Proofs.YtcjchimenfadkaaDoor.W

end


section
open Go Go.Ab
namespace Go.Proofs.YtcjchimenfadkaaDoor.W
structure GateTeam where
  Name : List UInt8
  Over : List UInt8
def GateTeam.ts (x : GateTeam) : List T := [.str x.Name, .str x.Over]
abbrev GateTeam.vs (x : GateTeam) : List V := [.t (.str x.Name), .t (.str x.Over)]
theorem GateTeam.vs_ts (x : GateTeam) : x.ts.map V.t = x.vs := rfl
structure GateTeam.Ok (x : GateTeam) : Prop where
  Name : x.Name.length ≤ 1048576
  Over : x.Over.length ≤ 1048576
abbrev tGateTeamS (l : List GateTeam) : T := .lst 2 (l.map GateTeam.ts)
abbrev GateTeam.OkS (l : List GateTeam) : Prop := l.length ≤ 1048576 ∧ ∀ y ∈ l, y.Ok
theorem of_GateTeam {ts : List T} (h : T.isL shGateTeam ts) : ∃ x : GateTeam, ts = x.ts ∧ (T.sizeL ts ≤ 1048576 → x.Ok) := by
  obtain ⟨n0, n1, rfl, b0, b1⟩ := isGateTeam h
  refine ⟨⟨n0, n1⟩, rfl, fun hz => ?_⟩
  rw [sizeGateTeam] at hz
  exact ⟨by simp only; omega, by simp only; omega⟩
theorem of_GateTeamS {t : T} (h : T.is (.sl 2 shGateTeam) t) : ∃ l : List GateTeam, t = .lst 2 (l.map GateTeam.ts) ∧ (t.size ≤ 1048576 → GateTeam.OkS l) := of_list (fun ts h => of_GateTeam h) h
structure GateRule where
  Verbs : List Int
  Kind : List UInt8
  Team : List UInt8
  Prefix : List UInt8
def GateRule.ts (x : GateRule) : List T := [.lst 1 (x.Verbs.map tInt), .str x.Kind, .str x.Team, .str x.Prefix]
abbrev GateRule.vs (x : GateRule) : List V := [.t (.lst 1 (x.Verbs.map tInt)), .t (.str x.Kind), .t (.str x.Team), .t (.str x.Prefix)]
theorem GateRule.vs_ts (x : GateRule) : x.ts.map V.t = x.vs := rfl
structure GateRule.Ok (x : GateRule) : Prop where
  Verbs : IntsOk x.Verbs
  Kind : x.Kind.length ≤ 1048576
  Team : x.Team.length ≤ 1048576
  Prefix : x.Prefix.length ≤ 1048576
abbrev tGateRuleS (l : List GateRule) : T := .lst 4 (l.map GateRule.ts)
abbrev GateRule.OkS (l : List GateRule) : Prop := l.length ≤ 1048576 ∧ ∀ y ∈ l, y.Ok
theorem of_GateRule {ts : List T} (h : T.isL shGateRule ts) : ∃ x : GateRule, ts = x.ts ∧ (T.sizeL ts ≤ 1048576 → x.Ok) := by
  obtain ⟨n0, n1, n2, n3, rfl, b0, b1, b2, b3⟩ := isGateRule h
  obtain ⟨l0, rfl, c0⟩ := of_ints b0
  refine ⟨⟨l0, n1, n2, n3⟩, rfl, fun hz => ?_⟩
  rw [sizeGateRule] at hz
  exact ⟨c0 (by omega), by simp only; omega, by simp only; omega, by simp only; omega⟩
theorem of_GateRuleS {t : T} (h : T.is (.sl 4 shGateRule) t) : ∃ l : List GateRule, t = .lst 4 (l.map GateRule.ts) ∧ (t.size ≤ 1048576 → GateRule.OkS l) := of_list (fun ts h => of_GateRule h) h
structure GateAct where
  Verb : Int
  Kind : List UInt8
  Team : List UInt8
  Name : List UInt8
def GateAct.ts (x : GateAct) : List T := [.int .i64 x.Verb, .str x.Kind, .str x.Team, .str x.Name]
abbrev GateAct.vs (x : GateAct) : List V := [.t (.int .i64 x.Verb), .t (.str x.Kind), .t (.str x.Team), .t (.str x.Name)]
theorem GateAct.vs_ts (x : GateAct) : x.ts.map V.t = x.vs := rfl
structure GateAct.Ok (x : GateAct) : Prop where
  Verb : i64r x.Verb
  Kind : x.Kind.length ≤ 1048576
  Team : x.Team.length ≤ 1048576
  Name : x.Name.length ≤ 1048576
abbrev tGateActS (l : List GateAct) : T := .lst 4 (l.map GateAct.ts)
abbrev GateAct.OkS (l : List GateAct) : Prop := l.length ≤ 1048576 ∧ ∀ y ∈ l, y.Ok
theorem of_GateAct {ts : List T} (h : T.isL shGateAct ts) : ∃ x : GateAct, ts = x.ts ∧ (T.sizeL ts ≤ 1048576 → x.Ok) := by
  obtain ⟨n0, n1, n2, n3, rfl, b0, b1, b2, b3⟩ := isGateAct h
  refine ⟨⟨n0, n1, n2, n3⟩, rfl, fun hz => ?_⟩
  rw [sizeGateAct] at hz
  exact ⟨wf_i64 b0, by simp only; omega, by simp only; omega, by simp only; omega⟩
theorem of_GateActS {t : T} (h : T.is (.sl 4 shGateAct) t) : ∃ l : List GateAct, t = .lst 4 (l.map GateAct.ts) ∧ (t.size ≤ 1048576 → GateAct.OkS l) := of_list (fun ts h => of_GateAct h) h
structure GateField where
  Name : List UInt8
  Kind : Int
  Least : Int
  Most : Int
  Words : List (List UInt8)
  To : List UInt8
  Role : Int
  Must : Bool
  Fixed : Bool
  Default : List UInt8
  Weighs : List UInt8
def GateField.ts (x : GateField) : List T := [.str x.Name, .int .i64 x.Kind, .int .i64 x.Least, .int .i64 x.Most, .lst 1 (x.Words.map tStr), .str x.To, .int .i64 x.Role, .bool x.Must, .bool x.Fixed, .str x.Default, .str x.Weighs]
abbrev GateField.vs (x : GateField) : List V := [.t (.str x.Name), .t (.int .i64 x.Kind), .t (.int .i64 x.Least), .t (.int .i64 x.Most), .t (.lst 1 (x.Words.map tStr)), .t (.str x.To), .t (.int .i64 x.Role), .t (.bool x.Must), .t (.bool x.Fixed), .t (.str x.Default), .t (.str x.Weighs)]
theorem GateField.vs_ts (x : GateField) : x.ts.map V.t = x.vs := rfl
structure GateField.Ok (x : GateField) : Prop where
  Name : x.Name.length ≤ 1048576
  Kind : i64r x.Kind
  Least : i64r x.Least
  Most : i64r x.Most
  Words : StrsOk x.Words
  To : x.To.length ≤ 1048576
  Role : i64r x.Role
  Default : x.Default.length ≤ 1048576
  Weighs : x.Weighs.length ≤ 1048576
abbrev tGateFieldS (l : List GateField) : T := .lst 11 (l.map GateField.ts)
abbrev GateField.OkS (l : List GateField) : Prop := l.length ≤ 1048576 ∧ ∀ y ∈ l, y.Ok
theorem of_GateField {ts : List T} (h : T.isL shGateField ts) : ∃ x : GateField, ts = x.ts ∧ (T.sizeL ts ≤ 1048576 → x.Ok) := by
  obtain ⟨n0, n1, n2, n3, n4, n5, n6, n7, n8, n9, n10, rfl, b0, b1, b2, b3, b4, b5, b6, b9, b10⟩ := isGateField h
  obtain ⟨l4, rfl, c4⟩ := of_strs b4
  refine ⟨⟨n0, n1, n2, n3, l4, n5, n6, n7, n8, n9, n10⟩, rfl, fun hz => ?_⟩
  rw [sizeGateField] at hz
  exact ⟨by simp only; omega, wf_i64 b1, wf_i64 b2, wf_i64 b3, c4 (by omega), by simp only; omega, wf_i64 b6, by simp only; omega, by simp only; omega⟩
theorem of_GateFieldS {t : T} (h : T.is (.sl 11 shGateField) t) : ∃ l : List GateField, t = .lst 11 (l.map GateField.ts) ∧ (t.size ≤ 1048576 → GateField.OkS l) := of_list (fun ts h => of_GateField h) h
structure GateShape where
  Kind : List UInt8
  Fields : List GateField
def GateShape.ts (x : GateShape) : List T := [.str x.Kind, .lst 11 (x.Fields.map GateField.ts)]
abbrev GateShape.vs (x : GateShape) : List V := [.t (.str x.Kind), .t (.lst 11 (x.Fields.map GateField.ts))]
theorem GateShape.vs_ts (x : GateShape) : x.ts.map V.t = x.vs := rfl
structure GateShape.Ok (x : GateShape) : Prop where
  Kind : x.Kind.length ≤ 1048576
  Fields : GateField.OkS x.Fields
abbrev tGateShapeS (l : List GateShape) : T := .lst 2 (l.map GateShape.ts)
abbrev GateShape.OkS (l : List GateShape) : Prop := l.length ≤ 1048576 ∧ ∀ y ∈ l, y.Ok
theorem of_GateShape {ts : List T} (h : T.isL shGateShape ts) : ∃ x : GateShape, ts = x.ts ∧ (T.sizeL ts ≤ 1048576 → x.Ok) := by
  obtain ⟨n0, n1, rfl, b0, b1⟩ := isGateShape h
  obtain ⟨l1, rfl, c1⟩ := of_GateFieldS b1
  refine ⟨⟨n0, l1⟩, rfl, fun hz => ?_⟩
  rw [sizeGateShape] at hz
  exact ⟨by simp only; omega, c1 (by omega)⟩
theorem of_GateShapeS {t : T} (h : T.is (.sl 2 shGateShape) t) : ∃ l : List GateShape, t = .lst 2 (l.map GateShape.ts) ∧ (t.size ≤ 1048576 → GateShape.OkS l) := of_list (fun ts h => of_GateShape h) h
structure GateObject where
  Kind : List UInt8
  Name : List UInt8
  Team : List UInt8
  Values : List (List UInt8)
  Ending : Bool
  Holds : List (List UInt8)
  Version : Int
def GateObject.ts (x : GateObject) : List T := [.str x.Kind, .str x.Name, .str x.Team, .lst 1 (x.Values.map tStr), .bool x.Ending, .lst 1 (x.Holds.map tStr), .int .i64 x.Version]
abbrev GateObject.vs (x : GateObject) : List V := [.t (.str x.Kind), .t (.str x.Name), .t (.str x.Team), .t (.lst 1 (x.Values.map tStr)), .t (.bool x.Ending), .t (.lst 1 (x.Holds.map tStr)), .t (.int .i64 x.Version)]
theorem GateObject.vs_ts (x : GateObject) : x.ts.map V.t = x.vs := rfl
structure GateObject.Ok (x : GateObject) : Prop where
  Kind : x.Kind.length ≤ 1048576
  Name : x.Name.length ≤ 1048576
  Team : x.Team.length ≤ 1048576
  Values : StrsOk x.Values
  Holds : StrsOk x.Holds
  Version : i64r x.Version
abbrev tGateObjectS (l : List GateObject) : T := .lst 7 (l.map GateObject.ts)
abbrev GateObject.OkS (l : List GateObject) : Prop := l.length ≤ 1048576 ∧ ∀ y ∈ l, y.Ok
theorem of_GateObject {ts : List T} (h : T.isL shGateObject ts) : ∃ x : GateObject, ts = x.ts ∧ (T.sizeL ts ≤ 1048576 → x.Ok) := by
  obtain ⟨n0, n1, n2, n3, n4, n5, n6, rfl, b0, b1, b2, b3, b5, b6⟩ := isGateObject h
  obtain ⟨l3, rfl, c3⟩ := of_strs b3
  obtain ⟨l5, rfl, c5⟩ := of_strs b5
  refine ⟨⟨n0, n1, n2, l3, n4, l5, n6⟩, rfl, fun hz => ?_⟩
  rw [sizeGateObject] at hz
  exact ⟨by simp only; omega, by simp only; omega, by simp only; omega, c3 (by omega), c5 (by omega), wf_i64 b6⟩
theorem of_GateObjectS {t : T} (h : T.is (.sl 7 shGateObject) t) : ∃ l : List GateObject, t = .lst 7 (l.map GateObject.ts) ∧ (t.size ≤ 1048576 → GateObject.OkS l) := of_list (fun ts h => of_GateObject h) h
end Go.Proofs.YtcjchimenfadkaaDoor.W

end
