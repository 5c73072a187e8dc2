/- What the laws' own helpers do with these structs: sizes, copies, comparing (printed by laws.py). Conditions: none. -/
/- What the laws' own helpers do with these structs: sizes, copies, comparing (printed by laws.py). Conditions: none. -/
/- The program's structs as Lean structures, their trees (printed by types.py). Conditions: none. -/
import Derived.Test.YtleilaipdhmgeaaAb3
import Derived.IntWalk
import Derived.Test.YtleilaipdhmgeaaProg
import Derived.KernelRfl
set_option linter.unusedSimpArgs false
set_option linter.unusedVariables false
set_option linter.defProp false

section
open Go Go.Ab
set_option maxHeartbeats 2000000
namespace Go.Proofs.Ytleilaipdhmgeaa.W
theorem i_szStringS : Is Try.prog 100 28 [(.tmp 4)] (tSzStr) := ⟨_, _, Try.func100, by decide +kernel, rfl, rfl, by kernel_rfl, rfl⟩
theorem szStringS : SzOk Try.prog 100 (.sl 1 [.str]) := szStr_ok i_szStringS
theorem i_szIntS : Is Try.prog 101 12 [(.tmp 4)] (tSzInt) := ⟨_, _, Try.func101, by decide +kernel, rfl, rfl, by kernel_rfl, rfl⟩
theorem szIntS : SzOk Try.prog 101 (.sl 1 [.int .i64]) := szInt_ok i_szIntS
theorem i_eqStringS : Is Try.prog 54 26 [(.tmp 4)] (tEq1) := ⟨_, _, Try.func54, by decide +kernel, rfl, rfl, by kernel_rfl, rfl⟩
theorem eqStringS : EqOk Try.prog 54 (.sl 1 [.str]) := eqStr_ok i_eqStringS
theorem i_eqIntS : Is Try.prog 89 26 [(.tmp 4)] (tEq1) := ⟨_, _, Try.func89, by decide +kernel, rfl, rfl, by kernel_rfl, rfl⟩
theorem eqIntS : EqOk Try.prog 89 (.sl 1 [.int .i64]) := eqInt_ok i_eqIntS
theorem i_toStringS : Is Try.prog 108 22 [(.tmp 2)] (tTo1 16 [.t (.str [])]) := ⟨_, _, Try.func108, by decide +kernel, rfl, rfl, by kernel_rfl, rfl⟩
theorem toStringS : ToOk Try.prog 108 (.sl 1 [.str]) := to1_ok 16 [.t (.str [])] sc_str rfl (by decide) i_toStringS
theorem i_toIntS : Is Try.prog 109 22 [(.tmp 2)] (tTo1 8 [.t (.int .i64 0)]) := ⟨_, _, Try.func109, by decide +kernel, rfl, rfl, by kernel_rfl, rfl⟩
theorem toIntS : ToOk Try.prog 109 (.sl 1 [.int .i64]) := to1_ok 8 [.t (.int .i64 0)] sc_int rfl (by decide) i_toIntS
def shRecSlot : List Sh := [.int .i64, .str]
theorem isRecSlot {ts : List T} (ht : T.isL shRecSlot ts) : ∃ n0 n1, ts = [(.int .i64 n0), (.str n1)] ∧ (Lit.int .i64 n0).wf = true ∧ n1.length ≤ maxLen := by
  simp only [shRecSlot, isL_cons, isL_nil, is_int, is_bool, is_str] at ht
  obtain ⟨_, _, rfl, ⟨n0, rfl, b0⟩, _, _, rfl, ⟨n1, rfl, b1⟩, rfl⟩ := ht
  exact ⟨_, _, rfl, b0, b1⟩
theorem mkRecSlot {n0} {n1} (b0 : (Lit.int .i64 n0).wf = true) (b1 : n1.length ≤ maxLen) : T.isL shRecSlot [(.int .i64 n0), (.str n1)] := by
  simp only [shRecSlot, isL_cons, isL_nil, is_int, is_bool, is_str]
  exact ⟨_, _, rfl, ⟨_, rfl, b0⟩, _, _, rfl, ⟨_, rfl, b1⟩, rfl⟩
theorem sizeRecSlot {n0} {n1} : T.sizeL [(.int .i64 n0), (.str n1)] = n1.length := by
  simp only [sizeL_cons, sizeL_nil, size_int, size_bool, size_str]
  try omega
def c_laws_szRecSlot : C := (.seq (.ops [⟨(some 2), none, (.box (.t 0))⟩, ⟨(some 4), none, (.mv (.c (.t (.int .i64 0))))⟩]) (.seq (.ops [⟨(some 5), none, (.mv (.t 1))⟩, ⟨(some 6), none, (.fieldAddr 1 (.t 2))⟩, ⟨(some 7), none, (.load none (.t 6))⟩, ⟨(some 8), none, (.len true (.t 7))⟩, ⟨(some 9), none, (.bin .sub (.t 5) (.t 8))⟩, ⟨(some 1), none, (.mv (.t 9))⟩]) (.seq (.seq (.ops [⟨(some 10), none, (.mv (.t 1))⟩, ⟨(some 11), none, (.bin .lss (.t 10) (.c (.t (.int .i64 0))))⟩]) (.cond (.t 11) (.seq (.ops [⟨(some 4), none, (.mv (.c (.t (.int .i64 (-1)))))⟩]) .ret) .skip)) (.seq (.ops [⟨(some 12), none, (.mv (.t 1))⟩, ⟨(some 4), none, (.mv (.t 12))⟩]) .ret))))
theorem k_laws_szRecSlot : comp Try.prog 13 (Try.f81.body.getD .skip) = some c_laws_szRecSlot := by kernel_rfl

theorem szRecSlot : SzLOk Try.prog 81 shRecSlot := by
  rintro ts left σ ht h0 h1
  obtain ⟨n0, n1, rfl, b0, b1⟩ := isRecSlot ht
  refine acalls_of Try.func81 (by decide +kernel) (code := Try.f81.body.getD .skip) (n := 13) (c := c_laws_szRecSlot) (rs := [(.tmp 4)]) rfl rfl k_laws_szRecSlot (by kernel_rfl) (by simp) (fun hσ => ?_)
  try simp only [maxLen] at *
  have fin : ∀ {n : Int} {τ : Store}, n ≤ left → (0 ≤ n → ((n1.length : Nat) : Int) + n ≤ left) → retV σ.length (SzR (T.sizeL [(.int .i64 n0), (.str n1)]) left σ) (σ ++ τ) (some [.t (.int .i64 n)]) := fun h h' => ret_same rfl hσ rfl ⟨⟨_, rfl, h, fun h0 => by have := h' h0; rw [sizeRecSlot]; exact this⟩, rfl⟩
  have w1 : IntKind.i64.wrap (left - n1.length) = left - n1.length := IntWalk.i64_in _ (by omega)
  simp -implicitDefEqProofs only [c_laws_szRecSlot, w1, S0, S1, S2, S3, S4, S5, S6, S7, S8, S9, S10, S11, S12, S13, S14, S15, opv, opvs, eget, env0, setD, lenStr, lenSl, isNilP, isNilS, putAt, if_true, if_false, reduceCtorEq, Nat.reduceLeDiff, Nat.reduceEqDiff, Nat.reduceSub, Nat.reduceMul, Nat.reduceAdd]
  refine cond_split (fun h => ?_) (fun h => ?_)
  · simp -implicitDefEqProofs only [S0, S1, S2, S3, S4, S5, S6, S7, S8, S9, S10, S11, S12, S13, S14, S15, opv, opvs, eget, env0, setD, lenStr, lenSl, isNilP, isNilS, putAt, if_true, if_false, reduceCtorEq, Nat.reduceLeDiff, Nat.reduceEqDiff, Nat.reduceSub, Nat.reduceMul, Nat.reduceAdd]
    simp only [decide_eq_true_eq] at h
    exact fin (by omega) (by omega)
  simp only [decide_eq_false_iff_not, Int.not_lt] at h
  simp -implicitDefEqProofs only [S0, S1, S2, S3, S4, S5, S6, S7, S8, S9, S10, S11, S12, S13, S14, S15, opv, opvs, eget, env0, setD, lenStr, lenSl, isNilP, isNilS, putAt, if_true, if_false, reduceCtorEq, Nat.reduceLeDiff, Nat.reduceEqDiff, Nat.reduceSub, Nat.reduceMul, Nat.reduceAdd]
  exact fin (by omega) (fun _ => by omega)
theorem szRecSlot_x {n0} {n1} (left : Int) (σ : Store) (b0 : (Lit.int .i64 n0).wf = true) (b1 : n1.length ≤ maxLen) (h0 : 0 ≤ left) (h1 : left ≤ 1048576) : ACalls Try.prog 81 [.agg [.t (.int .i64 n0), .t (.str n1)], .t (.int .i64 left)] σ (SzR (T.sizeL [(.int .i64 n0), (.str n1)]) left σ) := by
  have h := szRecSlot [(.int .i64 n0), (.str n1)] left σ (mkRecSlot b0 b1) h0 h1
  exact h
def c_laws_eqRecSlot : C := (.seq (.ops [⟨(some 2), none, (.box (.t 0))⟩, ⟨(some 3), none, (.box (.t 1))⟩, ⟨(some 4), none, (.mv (.c (.t (.bool false))))⟩]) (.seq (.seq (.ops [⟨(some 5), none, (.fieldAddr 0 (.t 2))⟩, ⟨(some 6), none, (.load none (.t 5))⟩, ⟨(some 7), none, (.fieldAddr 0 (.t 3))⟩, ⟨(some 8), none, (.load none (.t 7))⟩, ⟨(some 9), none, (.bin .neq (.t 6) (.t 8))⟩]) (.cond (.t 9) (.seq (.ops [⟨(some 4), none, (.mv (.c (.t (.bool false))))⟩]) .ret) .skip)) (.seq (.seq (.ops [⟨(some 10), none, (.fieldAddr 1 (.t 2))⟩, ⟨(some 11), none, (.load none (.t 10))⟩, ⟨(some 12), none, (.fieldAddr 1 (.t 3))⟩, ⟨(some 13), none, (.load none (.t 12))⟩, ⟨(some 14), none, (.bin .neq (.t 11) (.t 13))⟩]) (.cond (.t 14) (.seq (.ops [⟨(some 4), none, (.mv (.c (.t (.bool false))))⟩]) .ret) .skip)) (.seq (.ops [⟨(some 4), none, (.mv (.c (.t (.bool true))))⟩]) .ret))))
theorem k_laws_eqRecSlot : comp Try.prog 15 (Try.f84.body.getD .skip) = some c_laws_eqRecSlot := by kernel_rfl

theorem eqRecSlot : EqLOk Try.prog 84 shRecSlot := by
  rintro ts σ ht h1
  obtain ⟨n0, n1, rfl, b0, b1⟩ := isRecSlot ht
  rw [sizeRecSlot] at h1
  refine acalls_of Try.func84 (by decide +kernel) (code := Try.f84.body.getD .skip) (n := 15) (c := c_laws_eqRecSlot) (rs := [(.tmp 4)]) rfl rfl k_laws_eqRecSlot (by kernel_rfl) (by simp) (fun hσ => ?_)
  simp -implicitDefEqProofs only [c_laws_eqRecSlot, ne_self, beq_self_eq_true, S0, S1, S2, S3, S4, S5, S6, S7, S8, S9, S10, S11, S12, S13, S14, S15, opv, opvs, eget, env0, setD, lenStr, lenSl, isNilP, isNilS, putAt, if_true, if_false, reduceCtorEq, Nat.reduceLeDiff, Nat.reduceEqDiff, Nat.reduceSub, Nat.reduceMul, Nat.reduceAdd]
  exact ret_same rfl hσ rfl ⟨rfl, rfl⟩
theorem eqRecSlot_x {n0} {n1} (σ : Store) (b0 : (Lit.int .i64 n0).wf = true) (b1 : n1.length ≤ maxLen) (hz : n1.length ≤ 1099511627776) : ACalls Try.prog 84 [.agg [.t (.int .i64 n0), .t (.str n1)], .agg [.t (.int .i64 n0), .t (.str n1)]] σ (TrueR σ) := by
  have h := eqRecSlot [(.int .i64 n0), (.str n1)] σ (mkRecSlot b0 b1) (by rw [sizeRecSlot]; omega)
  exact h
def c_laws_toRecSlot : C := (.seq (.ops [⟨(some 1), none, (.box (.t 0))⟩, ⟨(some 2), none, (.new [(.t (.int .i64 0)), (.t (.str []))])⟩]) (.seq (.ops [⟨(some 3), none, (.new [(.t (.int .i64 0)), (.t (.str []))])⟩]) (.seq (.ops [⟨(some 4), none, (.fieldAddr 0 (.t 1))⟩, ⟨(some 5), none, (.load none (.t 4))⟩, ⟨(some 6), none, (.fieldAddr 0 (.t 3))⟩, ⟨none, none, (.store 1 (.t 6) (.t 5))⟩]) (.seq (.ops [⟨(some 7), none, (.fieldAddr 1 (.t 1))⟩, ⟨(some 8), none, (.load none (.t 7))⟩, ⟨(some 9), none, (.fieldAddr 1 (.t 3))⟩, ⟨none, none, (.store 1 (.t 9) (.t 8))⟩]) (.seq (.ops [⟨(some 10), none, (.load (some 2) (.t 3))⟩, ⟨none, none, (.store 2 (.t 2) (.t 10))⟩]) .ret)))))
theorem k_laws_toRecSlot : comp Try.prog 11 (Try.f83.body.getD .skip) = some c_laws_toRecSlot := by kernel_rfl

theorem toRecSlot : ToLOk Try.prog 83 shRecSlot := by
  rintro ts σ ht h1
  obtain ⟨n0, n1, rfl, b0, b1⟩ := isRecSlot ht
  rw [sizeRecSlot] at h1
  refine acalls_of Try.func83 (by decide +kernel) (code := Try.f83.body.getD .skip) (n := 11) (c := c_laws_toRecSlot) (rs := [(.cell 2 (some 2))]) rfl rfl k_laws_toRecSlot (by kernel_rfl) (by simp) (fun hσ => ?_)
  simp -implicitDefEqProofs only [c_laws_toRecSlot, S0, S1, S2, S3, S4, S5, S6, S7, S8, S9, S10, S11, S12, S13, S14, S15, opv, opvs, eget, env0, setD, lenStr, lenSl, isNilP, isNilS, putAt, if_true, if_false, reduceCtorEq, Nat.reduceLeDiff, Nat.reduceEqDiff, Nat.reduceSub, Nat.reduceMul, Nat.reduceAdd]
  exact fin_keep (by simp) ⟨_, _, [], rfl, rfl, (OwnL.int (OwnL.str OwnL.nil0)), Wi.nil⟩
theorem toRecSlot_x {n0} {n1} (σ : Store) (b0 : (Lit.int .i64 n0).wf = true) (b1 : n1.length ≤ maxLen) (hz : n1.length ≤ 1048576) : ACalls Try.prog 83 [.agg [.t (.int .i64 n0), .t (.str n1)]] σ (ToLR [(.int .i64 n0), (.str n1)] σ) := by
  have h := toRecSlot [(.int .i64 n0), (.str n1)] σ (mkRecSlot b0 b1) (by rw [sizeRecSlot]; omega)
  exact h
theorem i_szRecSlotS : Is Try.prog 21 27 [(.tmp 4)] (tSzS 2 81) := ⟨_, _, Try.func21, by decide +kernel, rfl, rfl, by kernel_rfl, rfl⟩
theorem szRecSlotS : SzOk Try.prog 21 (.sl 2 shRecSlot) := szS_ok rfl i_szRecSlotS szRecSlot
theorem i_eqRecSlotS : Is Try.prog 25 27 [(.tmp 4)] (tEqS 2 84) := ⟨_, _, Try.func25, by decide +kernel, rfl, rfl, by kernel_rfl, rfl⟩
theorem eqRecSlotS : EqOk Try.prog 25 (.sl 2 shRecSlot) := eqS_ok rfl i_eqRecSlotS eqRecSlot
theorem i_toRecSlotS : Is Try.prog 23 23 [(.tmp 2)] (tToS 2 24 83 [.t (.int .i64 0), .t (.str [])]) := ⟨_, _, Try.func23, by decide +kernel, rfl, rfl, by kernel_rfl, rfl⟩
theorem toRecSlotS : ToOk Try.prog 23 (.sl 2 shRecSlot) := toS_ok 24 [.t (.int .i64 0), .t (.str [])] rfl (by decide) rfl (by decide) i_toRecSlotS toRecSlot
def shRecDisk : List Sh := [.int .i64, .int .i64, .sl 2 shRecSlot]
theorem isRecDisk {ts : List T} (ht : T.isL shRecDisk ts) : ∃ n0 n1 n2, ts = [(.int .i64 n0), (.int .i64 n1), n2] ∧ (Lit.int .i64 n0).wf = true ∧ (Lit.int .i64 n1).wf = true ∧ T.is (.sl 2 shRecSlot) n2 := by
  simp only [shRecDisk, isL_cons, isL_nil, is_int, is_bool, is_str] at ht
  obtain ⟨_, _, rfl, ⟨n0, rfl, b0⟩, _, _, rfl, ⟨n1, rfl, b1⟩, n2, _, rfl, b2, rfl⟩ := ht
  exact ⟨_, _, _, rfl, b0, b1, b2⟩
theorem mkRecDisk {n0} {n1} {n2} (b0 : (Lit.int .i64 n0).wf = true) (b1 : (Lit.int .i64 n1).wf = true) (b2 : T.is (.sl 2 shRecSlot) n2) : T.isL shRecDisk [(.int .i64 n0), (.int .i64 n1), n2] := by
  simp only [shRecDisk, isL_cons, isL_nil, is_int, is_bool, is_str]
  exact ⟨_, _, rfl, ⟨_, rfl, b0⟩, _, _, rfl, ⟨_, rfl, b1⟩, _, _, rfl, b2, rfl⟩
theorem sizeRecDisk {n0} {n1} {n2} : T.sizeL [(.int .i64 n0), (.int .i64 n1), n2] = n2.size := by
  simp only [sizeL_cons, sizeL_nil, size_int, size_bool, size_str]
  try omega
def c_laws_szRecDisk : C := (.seq (.ops [⟨(some 2), none, (.box (.t 0))⟩, ⟨(some 4), none, (.mv (.c (.t (.int .i64 0))))⟩]) (.seq (.ops [⟨(some 5), none, (.fieldAddr 2 (.t 2))⟩, ⟨(some 6), none, (.load none (.t 5))⟩, ⟨(some 7), none, (.mv (.t 1))⟩, ⟨(some 8), none, (.call (.c (.fn (.func 21) [])) [(.t 6), (.t 7)])⟩, ⟨(some 1), none, (.mv (.t 8))⟩]) (.seq (.seq (.ops [⟨(some 9), none, (.mv (.t 1))⟩, ⟨(some 10), none, (.bin .lss (.t 9) (.c (.t (.int .i64 0))))⟩]) (.cond (.t 10) (.seq (.ops [⟨(some 4), none, (.mv (.c (.t (.int .i64 (-1)))))⟩]) .ret) .skip)) (.seq (.ops [⟨(some 11), none, (.mv (.t 1))⟩, ⟨(some 4), none, (.mv (.t 11))⟩]) .ret))))
theorem k_laws_szRecDisk : comp Try.prog 12 (Try.f28.body.getD .skip) = some c_laws_szRecDisk := by kernel_rfl

theorem szRecDisk : SzLOk Try.prog 28 shRecDisk := by
  rintro ts left σ ht h0 h1
  obtain ⟨n0, n1, n2, rfl, b0, b1, b2⟩ := isRecDisk ht
  refine acalls_of Try.func28 (by decide +kernel) (code := Try.f28.body.getD .skip) (n := 12) (c := c_laws_szRecDisk) (rs := [(.tmp 4)]) rfl rfl k_laws_szRecDisk (by kernel_rfl) (by simp) (fun hσ => ?_)
  try simp only [maxLen] at *
  have fin : ∀ {n : Int} {τ : Store}, n ≤ left → (0 ≤ n → ((n2.size : Nat) : Int) + n ≤ left) → retV σ.length (SzR (T.sizeL [(.int .i64 n0), (.int .i64 n1), n2]) left σ) (σ ++ τ) (some [.t (.int .i64 n)]) := fun h h' => ret_same rfl hσ rfl ⟨⟨_, rfl, h, fun h0 => by have := h' h0; rw [sizeRecDisk]; exact this⟩, rfl⟩
  simp -implicitDefEqProofs only [c_laws_szRecDisk, S0, S1, S2, S3, S4, S5, S6, S7, S8, S9, S10, S11, S12, S13, S14, S15, opv, opvs, eget, env0, setD, lenStr, lenSl, isNilP, isNilS, putAt, if_true, if_false, reduceCtorEq, Nat.reduceLeDiff, Nat.reduceEqDiff, Nat.reduceSub, Nat.reduceMul, Nat.reduceAdd]
  refine call_by (by rw [List.append_nil]; exact szRecSlotS n2 left _ b2 (by omega) (by omega)) ?_
  rintro r σ' ⟨⟨m2, rfl, hm2, hs2⟩, rfl⟩
  try simp only [sizeRecDisk] at hs2
  simp -implicitDefEqProofs only [S0, S1, S2, S3, S4, S5, S6, S7, S8, S9, S10, S11, S12, S13, S14, S15, opv, opvs, eget, env0, setD, lenStr, lenSl, isNilP, isNilS, putAt, if_true, if_false, reduceCtorEq, Nat.reduceLeDiff, Nat.reduceEqDiff, Nat.reduceSub, Nat.reduceMul, Nat.reduceAdd]
  refine cond_split (fun h => ?_) (fun h => ?_)
  · simp -implicitDefEqProofs only [S0, S1, S2, S3, S4, S5, S6, S7, S8, S9, S10, S11, S12, S13, S14, S15, opv, opvs, eget, env0, setD, lenStr, lenSl, isNilP, isNilS, putAt, if_true, if_false, reduceCtorEq, Nat.reduceLeDiff, Nat.reduceEqDiff, Nat.reduceSub, Nat.reduceMul, Nat.reduceAdd]
    simp only [decide_eq_true_eq] at h
    exact fin (by omega) (by omega)
  simp only [decide_eq_false_iff_not, Int.not_lt] at h
  replace hs2 := hs2 h
  simp -implicitDefEqProofs only [S0, S1, S2, S3, S4, S5, S6, S7, S8, S9, S10, S11, S12, S13, S14, S15, opv, opvs, eget, env0, setD, lenStr, lenSl, isNilP, isNilS, putAt, if_true, if_false, reduceCtorEq, Nat.reduceLeDiff, Nat.reduceEqDiff, Nat.reduceSub, Nat.reduceMul, Nat.reduceAdd]
  exact fin (by omega) (fun _ => by omega)
theorem szRecDisk_x {n0} {n1} {n2} (left : Int) (σ : Store) (b0 : (Lit.int .i64 n0).wf = true) (b1 : (Lit.int .i64 n1).wf = true) (b2 : T.is (.sl 2 shRecSlot) n2) (h0 : 0 ≤ left) (h1 : left ≤ 1048576) : ACalls Try.prog 28 [.agg [.t (.int .i64 n0), .t (.int .i64 n1), .t n2], .t (.int .i64 left)] σ (SzR (T.sizeL [(.int .i64 n0), (.int .i64 n1), n2]) left σ) := by
  have h := szRecDisk [(.int .i64 n0), (.int .i64 n1), n2] left σ (mkRecDisk b0 b1 b2) h0 h1
  exact h
def c_laws_eqRecDisk : C := (.seq (.ops [⟨(some 2), none, (.box (.t 0))⟩, ⟨(some 3), none, (.box (.t 1))⟩, ⟨(some 4), none, (.mv (.c (.t (.bool false))))⟩]) (.seq (.seq (.ops [⟨(some 5), none, (.fieldAddr 0 (.t 2))⟩, ⟨(some 6), none, (.load none (.t 5))⟩, ⟨(some 7), none, (.fieldAddr 0 (.t 3))⟩, ⟨(some 8), none, (.load none (.t 7))⟩, ⟨(some 9), none, (.bin .neq (.t 6) (.t 8))⟩]) (.cond (.t 9) (.seq (.ops [⟨(some 4), none, (.mv (.c (.t (.bool false))))⟩]) .ret) .skip)) (.seq (.seq (.ops [⟨(some 10), none, (.fieldAddr 1 (.t 2))⟩, ⟨(some 11), none, (.load none (.t 10))⟩, ⟨(some 12), none, (.fieldAddr 1 (.t 3))⟩, ⟨(some 13), none, (.load none (.t 12))⟩, ⟨(some 14), none, (.bin .neq (.t 11) (.t 13))⟩]) (.cond (.t 14) (.seq (.ops [⟨(some 4), none, (.mv (.c (.t (.bool false))))⟩]) .ret) .skip)) (.seq (.seq (.ops [⟨(some 15), none, (.fieldAddr 2 (.t 2))⟩, ⟨(some 16), none, (.load none (.t 15))⟩, ⟨(some 17), none, (.fieldAddr 2 (.t 3))⟩, ⟨(some 18), none, (.load none (.t 17))⟩, ⟨(some 19), none, (.call (.c (.fn (.func 25) [])) [(.t 16), (.t 18)])⟩, ⟨(some 20), none, (.un .not (.t 19))⟩]) (.cond (.t 20) (.seq (.ops [⟨(some 4), none, (.mv (.c (.t (.bool false))))⟩]) .ret) .skip)) (.seq (.ops [⟨(some 4), none, (.mv (.c (.t (.bool true))))⟩]) .ret)))))
theorem k_laws_eqRecDisk : comp Try.prog 21 (Try.f32.body.getD .skip) = some c_laws_eqRecDisk := by kernel_rfl

theorem eqRecDisk : EqLOk Try.prog 32 shRecDisk := by
  rintro ts σ ht h1
  obtain ⟨n0, n1, n2, rfl, b0, b1, b2⟩ := isRecDisk ht
  rw [sizeRecDisk] at h1
  refine acalls_of Try.func32 (by decide +kernel) (code := Try.f32.body.getD .skip) (n := 21) (c := c_laws_eqRecDisk) (rs := [(.tmp 4)]) rfl rfl k_laws_eqRecDisk (by kernel_rfl) (by simp) (fun hσ => ?_)
  simp -implicitDefEqProofs only [c_laws_eqRecDisk, ne_self, beq_self_eq_true, S0, S1, S2, S3, S4, S5, S6, S7, S8, S9, S10, S11, S12, S13, S14, S15, opv, opvs, eget, env0, setD, lenStr, lenSl, isNilP, isNilS, putAt, if_true, if_false, reduceCtorEq, Nat.reduceLeDiff, Nat.reduceEqDiff, Nat.reduceSub, Nat.reduceMul, Nat.reduceAdd]
  refine call_pure (eqRecSlotS n2 _ b2 (by omega)) ?_
  simp -implicitDefEqProofs only [ne_self, beq_self_eq_true, S0, S1, S2, S3, S4, S5, S6, S7, S8, S9, S10, S11, S12, S13, S14, S15, opv, opvs, eget, env0, setD, lenStr, lenSl, isNilP, isNilS, putAt, if_true, if_false, reduceCtorEq, Nat.reduceLeDiff, Nat.reduceEqDiff, Nat.reduceSub, Nat.reduceMul, Nat.reduceAdd]
  exact ret_same rfl hσ rfl ⟨rfl, rfl⟩
theorem eqRecDisk_x {n0} {n1} {n2} (σ : Store) (b0 : (Lit.int .i64 n0).wf = true) (b1 : (Lit.int .i64 n1).wf = true) (b2 : T.is (.sl 2 shRecSlot) n2) (hz : n2.size ≤ 1099511627776) : ACalls Try.prog 32 [.agg [.t (.int .i64 n0), .t (.int .i64 n1), .t n2], .agg [.t (.int .i64 n0), .t (.int .i64 n1), .t n2]] σ (TrueR σ) := by
  have h := eqRecDisk [(.int .i64 n0), (.int .i64 n1), n2] σ (mkRecDisk b0 b1 b2) (by rw [sizeRecDisk]; omega)
  exact h
def c_laws_toRecDisk : C := (.seq (.ops [⟨(some 1), none, (.box (.t 0))⟩, ⟨(some 2), none, (.new [(.t (.int .i64 0)), (.t (.int .i64 0)), .nils])⟩]) (.seq (.ops [⟨(some 3), none, (.new [(.t (.int .i64 0)), (.t (.int .i64 0)), .nils])⟩]) (.seq (.ops [⟨(some 4), none, (.fieldAddr 0 (.t 1))⟩, ⟨(some 5), none, (.load none (.t 4))⟩, ⟨(some 6), none, (.fieldAddr 0 (.t 3))⟩, ⟨none, none, (.store 1 (.t 6) (.t 5))⟩]) (.seq (.ops [⟨(some 7), none, (.fieldAddr 1 (.t 1))⟩, ⟨(some 8), none, (.load none (.t 7))⟩, ⟨(some 9), none, (.fieldAddr 1 (.t 3))⟩, ⟨none, none, (.store 1 (.t 9) (.t 8))⟩]) (.seq (.ops [⟨(some 10), none, (.fieldAddr 2 (.t 1))⟩, ⟨(some 11), none, (.load none (.t 10))⟩, ⟨(some 12), none, (.call (.c (.fn (.func 23) [])) [(.t 11)])⟩, ⟨(some 13), none, (.fieldAddr 2 (.t 3))⟩, ⟨none, none, (.store 1 (.t 13) (.t 12))⟩]) (.seq (.ops [⟨(some 14), none, (.load (some 3) (.t 3))⟩, ⟨none, none, (.store 3 (.t 2) (.t 14))⟩]) .ret))))))
theorem k_laws_toRecDisk : comp Try.prog 15 (Try.f30.body.getD .skip) = some c_laws_toRecDisk := by kernel_rfl

theorem toRecDisk : ToLOk Try.prog 30 shRecDisk := by
  rintro ts σ ht h1
  obtain ⟨n0, n1, n2, rfl, b0, b1, b2⟩ := isRecDisk ht
  rw [sizeRecDisk] at h1
  refine acalls_of Try.func30 (by decide +kernel) (code := Try.f30.body.getD .skip) (n := 15) (c := c_laws_toRecDisk) (rs := [(.cell 2 (some 3))]) rfl rfl k_laws_toRecDisk (by kernel_rfl) (by simp) (fun hσ => ?_)
  simp -implicitDefEqProofs only [c_laws_toRecDisk, S0, S1, S2, S3, S4, S5, S6, S7, S8, S9, S10, S11, S12, S13, S14, S15, opv, opvs, eget, env0, setD, lenStr, lenSl, isNilP, isNilS, putAt, if_true, if_false, reduceCtorEq, Nat.reduceLeDiff, Nat.reduceEqDiff, Nat.reduceSub, Nat.reduceMul, Nat.reduceAdd]
  refine call_by (by rw [List.append_nil]; exact toRecSlotS n2 _ b2 (by omega)) ?_
  rintro u2 σ' ⟨τ2, j2, rfl, o2, w2⟩
  have e2 := o2.one
  simp -implicitDefEqProofs only [one_cells e2, e2, S0, S1, S2, S3, S4, S5, S6, S7, S8, S9, S10, S11, S12, S13, S14, S15, opv, opvs, eget, env0, setD, lenStr, lenSl, isNilP, isNilS, putAt, if_true, if_false, reduceCtorEq, Nat.reduceLeDiff, Nat.reduceEqDiff, Nat.reduceSub, Nat.reduceMul, Nat.reduceAdd]
  refine fin_keep (by simp) ⟨_, _, (j2 ++ []), rfl, rfl, (OwnL.int (OwnL.int (OwnL.lst (own_pre (A := [_, _, _]) (A' := [_, _, _]) (B := τ2) (B' := τ2) o2 w2 (List.append_assoc ..) rfl rfl (by simp) (by simp)) OwnL.nil0))), ?_⟩
  simp only [List.length_append, List.length_cons, List.length_nil] at w2 ⊢
  refine Wi.mono (a := σ.length) ?_ (Nat.le_refl _) (Nat.le_refl _)
  exact wi_last w2 (by omega) (by omega)
theorem toRecDisk_x {n0} {n1} {n2} (σ : Store) (b0 : (Lit.int .i64 n0).wf = true) (b1 : (Lit.int .i64 n1).wf = true) (b2 : T.is (.sl 2 shRecSlot) n2) (hz : n2.size ≤ 1048576) : ACalls Try.prog 30 [.agg [.t (.int .i64 n0), .t (.int .i64 n1), .t n2]] σ (ToLR [(.int .i64 n0), (.int .i64 n1), n2] σ) := by
  have h := toRecDisk [(.int .i64 n0), (.int .i64 n1), n2] σ (mkRecDisk b0 b1 b2) (by rw [sizeRecDisk]; omega)
  exact h
def shRecMessage : List Sh := [.int .i64, .int .i64, .int .i64, .int .i64, .int .i64, .int .i64, .str, .sl 2 shRecSlot]
theorem isRecMessage {ts : List T} (ht : T.isL shRecMessage ts) : ∃ n0 n1 n2 n3 n4 n5 n6 n7, ts = [(.int .i64 n0), (.int .i64 n1), (.int .i64 n2), (.int .i64 n3), (.int .i64 n4), (.int .i64 n5), (.str n6), n7] ∧ (Lit.int .i64 n0).wf = true ∧ (Lit.int .i64 n1).wf = true ∧ (Lit.int .i64 n2).wf = true ∧ (Lit.int .i64 n3).wf = true ∧ (Lit.int .i64 n4).wf = true ∧ (Lit.int .i64 n5).wf = true ∧ n6.length ≤ maxLen ∧ T.is (.sl 2 shRecSlot) n7 := by
  simp only [shRecMessage, isL_cons, isL_nil, is_int, is_bool, is_str] at ht
  obtain ⟨_, _, rfl, ⟨n0, rfl, b0⟩, _, _, rfl, ⟨n1, rfl, b1⟩, _, _, rfl, ⟨n2, rfl, b2⟩, _, _, rfl, ⟨n3, rfl, b3⟩, _, _, rfl, ⟨n4, rfl, b4⟩, _, _, rfl, ⟨n5, rfl, b5⟩, _, _, rfl, ⟨n6, rfl, b6⟩, n7, _, rfl, b7, rfl⟩ := ht
  exact ⟨_, _, _, _, _, _, _, _, rfl, b0, b1, b2, b3, b4, b5, b6, b7⟩
theorem mkRecMessage {n0} {n1} {n2} {n3} {n4} {n5} {n6} {n7} (b0 : (Lit.int .i64 n0).wf = true) (b1 : (Lit.int .i64 n1).wf = true) (b2 : (Lit.int .i64 n2).wf = true) (b3 : (Lit.int .i64 n3).wf = true) (b4 : (Lit.int .i64 n4).wf = true) (b5 : (Lit.int .i64 n5).wf = true) (b6 : n6.length ≤ maxLen) (b7 : T.is (.sl 2 shRecSlot) n7) : T.isL shRecMessage [(.int .i64 n0), (.int .i64 n1), (.int .i64 n2), (.int .i64 n3), (.int .i64 n4), (.int .i64 n5), (.str n6), n7] := by
  simp only [shRecMessage, isL_cons, isL_nil, is_int, is_bool, is_str]
  exact ⟨_, _, rfl, ⟨_, rfl, b0⟩, _, _, rfl, ⟨_, rfl, b1⟩, _, _, rfl, ⟨_, rfl, b2⟩, _, _, rfl, ⟨_, rfl, b3⟩, _, _, rfl, ⟨_, rfl, b4⟩, _, _, rfl, ⟨_, rfl, b5⟩, _, _, rfl, ⟨_, rfl, b6⟩, _, _, rfl, b7, rfl⟩
theorem sizeRecMessage {n0} {n1} {n2} {n3} {n4} {n5} {n6} {n7} : T.sizeL [(.int .i64 n0), (.int .i64 n1), (.int .i64 n2), (.int .i64 n3), (.int .i64 n4), (.int .i64 n5), (.str n6), n7] = n6.length + n7.size := by
  simp only [sizeL_cons, sizeL_nil, size_int, size_bool, size_str]
  try omega
def c_laws_szRecMessage : C := (.seq (.ops [⟨(some 2), none, (.box (.t 0))⟩, ⟨(some 4), none, (.mv (.c (.t (.int .i64 0))))⟩]) (.seq (.ops [⟨(some 5), none, (.mv (.t 1))⟩, ⟨(some 6), none, (.fieldAddr 6 (.t 2))⟩, ⟨(some 7), none, (.load none (.t 6))⟩, ⟨(some 8), none, (.len true (.t 7))⟩, ⟨(some 9), none, (.bin .sub (.t 5) (.t 8))⟩, ⟨(some 1), none, (.mv (.t 9))⟩]) (.seq (.seq (.ops [⟨(some 10), none, (.mv (.t 1))⟩, ⟨(some 11), none, (.bin .lss (.t 10) (.c (.t (.int .i64 0))))⟩]) (.cond (.t 11) (.seq (.ops [⟨(some 4), none, (.mv (.c (.t (.int .i64 (-1)))))⟩]) .ret) .skip)) (.seq (.ops [⟨(some 12), none, (.fieldAddr 7 (.t 2))⟩, ⟨(some 13), none, (.load none (.t 12))⟩, ⟨(some 14), none, (.mv (.t 1))⟩, ⟨(some 15), none, (.call (.c (.fn (.func 21) [])) [(.t 13), (.t 14)])⟩, ⟨(some 1), none, (.mv (.t 15))⟩]) (.seq (.seq (.ops [⟨(some 16), none, (.mv (.t 1))⟩, ⟨(some 17), none, (.bin .lss (.t 16) (.c (.t (.int .i64 0))))⟩]) (.cond (.t 17) (.seq (.ops [⟨(some 4), none, (.mv (.c (.t (.int .i64 (-1)))))⟩]) .ret) .skip)) (.seq (.ops [⟨(some 18), none, (.mv (.t 1))⟩, ⟨(some 4), none, (.mv (.t 18))⟩]) .ret))))))
theorem k_laws_szRecMessage : comp Try.prog 19 (Try.f33.body.getD .skip) = some c_laws_szRecMessage := by kernel_rfl

theorem szRecMessage : SzLOk Try.prog 33 shRecMessage := by
  rintro ts left σ ht h0 h1
  obtain ⟨n0, n1, n2, n3, n4, n5, n6, n7, rfl, b0, b1, b2, b3, b4, b5, b6, b7⟩ := isRecMessage ht
  refine acalls_of Try.func33 (by decide +kernel) (code := Try.f33.body.getD .skip) (n := 19) (c := c_laws_szRecMessage) (rs := [(.tmp 4)]) rfl rfl k_laws_szRecMessage (by kernel_rfl) (by simp) (fun hσ => ?_)
  try simp only [maxLen] at *
  have fin : ∀ {n : Int} {τ : Store}, n ≤ left → (0 ≤ n → ((n6.length + n7.size : Nat) : Int) + n ≤ left) → retV σ.length (SzR (T.sizeL [(.int .i64 n0), (.int .i64 n1), (.int .i64 n2), (.int .i64 n3), (.int .i64 n4), (.int .i64 n5), (.str n6), n7]) left σ) (σ ++ τ) (some [.t (.int .i64 n)]) := fun h h' => ret_same rfl hσ rfl ⟨⟨_, rfl, h, fun h0 => by have := h' h0; rw [sizeRecMessage]; exact this⟩, rfl⟩
  have w6 : IntKind.i64.wrap (left - n6.length) = left - n6.length := IntWalk.i64_in _ (by omega)
  simp -implicitDefEqProofs only [c_laws_szRecMessage, w6, S0, S1, S2, S3, S4, S5, S6, S7, S8, S9, S10, S11, S12, S13, S14, S15, opv, opvs, eget, env0, setD, lenStr, lenSl, isNilP, isNilS, putAt, if_true, if_false, reduceCtorEq, Nat.reduceLeDiff, Nat.reduceEqDiff, Nat.reduceSub, Nat.reduceMul, Nat.reduceAdd]
  refine cond_split (fun h => ?_) (fun h => ?_)
  · simp -implicitDefEqProofs only [S0, S1, S2, S3, S4, S5, S6, S7, S8, S9, S10, S11, S12, S13, S14, S15, opv, opvs, eget, env0, setD, lenStr, lenSl, isNilP, isNilS, putAt, if_true, if_false, reduceCtorEq, Nat.reduceLeDiff, Nat.reduceEqDiff, Nat.reduceSub, Nat.reduceMul, Nat.reduceAdd]
    simp only [decide_eq_true_eq] at h
    exact fin (by omega) (by omega)
  simp only [decide_eq_false_iff_not, Int.not_lt] at h
  simp -implicitDefEqProofs only [S0, S1, S2, S3, S4, S5, S6, S7, S8, S9, S10, S11, S12, S13, S14, S15, opv, opvs, eget, env0, setD, lenStr, lenSl, isNilP, isNilS, putAt, if_true, if_false, reduceCtorEq, Nat.reduceLeDiff, Nat.reduceEqDiff, Nat.reduceSub, Nat.reduceMul, Nat.reduceAdd]
  refine call_by (by rw [List.append_nil]; exact szRecSlotS n7 (left - n6.length) _ b7 (by omega) (by omega)) ?_
  rintro r σ' ⟨⟨m7, rfl, hm7, hs7⟩, rfl⟩
  try simp only [sizeRecMessage] at hs7
  simp -implicitDefEqProofs only [S0, S1, S2, S3, S4, S5, S6, S7, S8, S9, S10, S11, S12, S13, S14, S15, opv, opvs, eget, env0, setD, lenStr, lenSl, isNilP, isNilS, putAt, if_true, if_false, reduceCtorEq, Nat.reduceLeDiff, Nat.reduceEqDiff, Nat.reduceSub, Nat.reduceMul, Nat.reduceAdd]
  refine cond_split (fun h => ?_) (fun h => ?_)
  · simp -implicitDefEqProofs only [S0, S1, S2, S3, S4, S5, S6, S7, S8, S9, S10, S11, S12, S13, S14, S15, opv, opvs, eget, env0, setD, lenStr, lenSl, isNilP, isNilS, putAt, if_true, if_false, reduceCtorEq, Nat.reduceLeDiff, Nat.reduceEqDiff, Nat.reduceSub, Nat.reduceMul, Nat.reduceAdd]
    simp only [decide_eq_true_eq] at h
    exact fin (by omega) (by omega)
  simp only [decide_eq_false_iff_not, Int.not_lt] at h
  replace hs7 := hs7 h
  simp -implicitDefEqProofs only [S0, S1, S2, S3, S4, S5, S6, S7, S8, S9, S10, S11, S12, S13, S14, S15, opv, opvs, eget, env0, setD, lenStr, lenSl, isNilP, isNilS, putAt, if_true, if_false, reduceCtorEq, Nat.reduceLeDiff, Nat.reduceEqDiff, Nat.reduceSub, Nat.reduceMul, Nat.reduceAdd]
  exact fin (by omega) (fun _ => by omega)
theorem szRecMessage_x {n0} {n1} {n2} {n3} {n4} {n5} {n6} {n7} (left : Int) (σ : Store) (b0 : (Lit.int .i64 n0).wf = true) (b1 : (Lit.int .i64 n1).wf = true) (b2 : (Lit.int .i64 n2).wf = true) (b3 : (Lit.int .i64 n3).wf = true) (b4 : (Lit.int .i64 n4).wf = true) (b5 : (Lit.int .i64 n5).wf = true) (b6 : n6.length ≤ maxLen) (b7 : T.is (.sl 2 shRecSlot) n7) (h0 : 0 ≤ left) (h1 : left ≤ 1048576) : ACalls Try.prog 33 [.agg [.t (.int .i64 n0), .t (.int .i64 n1), .t (.int .i64 n2), .t (.int .i64 n3), .t (.int .i64 n4), .t (.int .i64 n5), .t (.str n6), .t n7], .t (.int .i64 left)] σ (SzR (T.sizeL [(.int .i64 n0), (.int .i64 n1), (.int .i64 n2), (.int .i64 n3), (.int .i64 n4), (.int .i64 n5), (.str n6), n7]) left σ) := by
  have h := szRecMessage [(.int .i64 n0), (.int .i64 n1), (.int .i64 n2), (.int .i64 n3), (.int .i64 n4), (.int .i64 n5), (.str n6), n7] left σ (mkRecMessage b0 b1 b2 b3 b4 b5 b6 b7) h0 h1
  exact h
def c_laws_eqRecMessage : C := (.seq (.ops [⟨(some 2), none, (.box (.t 0))⟩, ⟨(some 3), none, (.box (.t 1))⟩, ⟨(some 4), none, (.mv (.c (.t (.bool false))))⟩]) (.seq (.seq (.ops [⟨(some 5), none, (.fieldAddr 0 (.t 2))⟩, ⟨(some 6), none, (.load none (.t 5))⟩, ⟨(some 7), none, (.fieldAddr 0 (.t 3))⟩, ⟨(some 8), none, (.load none (.t 7))⟩, ⟨(some 9), none, (.bin .neq (.t 6) (.t 8))⟩]) (.cond (.t 9) (.seq (.ops [⟨(some 4), none, (.mv (.c (.t (.bool false))))⟩]) .ret) .skip)) (.seq (.seq (.ops [⟨(some 10), none, (.fieldAddr 1 (.t 2))⟩, ⟨(some 11), none, (.load none (.t 10))⟩, ⟨(some 12), none, (.fieldAddr 1 (.t 3))⟩, ⟨(some 13), none, (.load none (.t 12))⟩, ⟨(some 14), none, (.bin .neq (.t 11) (.t 13))⟩]) (.cond (.t 14) (.seq (.ops [⟨(some 4), none, (.mv (.c (.t (.bool false))))⟩]) .ret) .skip)) (.seq (.seq (.ops [⟨(some 15), none, (.fieldAddr 2 (.t 2))⟩, ⟨(some 16), none, (.load none (.t 15))⟩, ⟨(some 17), none, (.fieldAddr 2 (.t 3))⟩, ⟨(some 18), none, (.load none (.t 17))⟩, ⟨(some 19), none, (.bin .neq (.t 16) (.t 18))⟩]) (.cond (.t 19) (.seq (.ops [⟨(some 4), none, (.mv (.c (.t (.bool false))))⟩]) .ret) .skip)) (.seq (.seq (.ops [⟨(some 20), none, (.fieldAddr 3 (.t 2))⟩, ⟨(some 21), none, (.load none (.t 20))⟩, ⟨(some 22), none, (.fieldAddr 3 (.t 3))⟩, ⟨(some 23), none, (.load none (.t 22))⟩, ⟨(some 24), none, (.bin .neq (.t 21) (.t 23))⟩]) (.cond (.t 24) (.seq (.ops [⟨(some 4), none, (.mv (.c (.t (.bool false))))⟩]) .ret) .skip)) (.seq (.seq (.ops [⟨(some 25), none, (.fieldAddr 4 (.t 2))⟩, ⟨(some 26), none, (.load none (.t 25))⟩, ⟨(some 27), none, (.fieldAddr 4 (.t 3))⟩, ⟨(some 28), none, (.load none (.t 27))⟩, ⟨(some 29), none, (.bin .neq (.t 26) (.t 28))⟩]) (.cond (.t 29) (.seq (.ops [⟨(some 4), none, (.mv (.c (.t (.bool false))))⟩]) .ret) .skip)) (.seq (.seq (.ops [⟨(some 30), none, (.fieldAddr 5 (.t 2))⟩, ⟨(some 31), none, (.load none (.t 30))⟩, ⟨(some 32), none, (.fieldAddr 5 (.t 3))⟩, ⟨(some 33), none, (.load none (.t 32))⟩, ⟨(some 34), none, (.bin .neq (.t 31) (.t 33))⟩]) (.cond (.t 34) (.seq (.ops [⟨(some 4), none, (.mv (.c (.t (.bool false))))⟩]) .ret) .skip)) (.seq (.seq (.ops [⟨(some 35), none, (.fieldAddr 6 (.t 2))⟩, ⟨(some 36), none, (.load none (.t 35))⟩, ⟨(some 37), none, (.fieldAddr 6 (.t 3))⟩, ⟨(some 38), none, (.load none (.t 37))⟩, ⟨(some 39), none, (.bin .neq (.t 36) (.t 38))⟩]) (.cond (.t 39) (.seq (.ops [⟨(some 4), none, (.mv (.c (.t (.bool false))))⟩]) .ret) .skip)) (.seq (.seq (.ops [⟨(some 40), none, (.fieldAddr 7 (.t 2))⟩, ⟨(some 41), none, (.load none (.t 40))⟩, ⟨(some 42), none, (.fieldAddr 7 (.t 3))⟩, ⟨(some 43), none, (.load none (.t 42))⟩, ⟨(some 44), none, (.call (.c (.fn (.func 25) [])) [(.t 41), (.t 43)])⟩, ⟨(some 45), none, (.un .not (.t 44))⟩]) (.cond (.t 45) (.seq (.ops [⟨(some 4), none, (.mv (.c (.t (.bool false))))⟩]) .ret) .skip)) (.seq (.ops [⟨(some 4), none, (.mv (.c (.t (.bool true))))⟩]) .ret))))))))))
theorem k_laws_eqRecMessage : comp Try.prog 46 (Try.f37.body.getD .skip) = some c_laws_eqRecMessage := by kernel_rfl

theorem eqRecMessage : EqLOk Try.prog 37 shRecMessage := by
  rintro ts σ ht h1
  obtain ⟨n0, n1, n2, n3, n4, n5, n6, n7, rfl, b0, b1, b2, b3, b4, b5, b6, b7⟩ := isRecMessage ht
  rw [sizeRecMessage] at h1
  refine acalls_of Try.func37 (by decide +kernel) (code := Try.f37.body.getD .skip) (n := 46) (c := c_laws_eqRecMessage) (rs := [(.tmp 4)]) rfl rfl k_laws_eqRecMessage (by kernel_rfl) (by simp) (fun hσ => ?_)
  simp -implicitDefEqProofs only [c_laws_eqRecMessage, ne_self, beq_self_eq_true, S0, S1, S2, S3, S4, S5, S6, S7, S8, S9, S10, S11, S12, S13, S14, S15, opv, opvs, eget, env0, setD, lenStr, lenSl, isNilP, isNilS, putAt, if_true, if_false, reduceCtorEq, Nat.reduceLeDiff, Nat.reduceEqDiff, Nat.reduceSub, Nat.reduceMul, Nat.reduceAdd]
  refine call_pure (eqRecSlotS n7 _ b7 (by omega)) ?_
  simp -implicitDefEqProofs only [ne_self, beq_self_eq_true, S0, S1, S2, S3, S4, S5, S6, S7, S8, S9, S10, S11, S12, S13, S14, S15, opv, opvs, eget, env0, setD, lenStr, lenSl, isNilP, isNilS, putAt, if_true, if_false, reduceCtorEq, Nat.reduceLeDiff, Nat.reduceEqDiff, Nat.reduceSub, Nat.reduceMul, Nat.reduceAdd]
  exact ret_same rfl hσ rfl ⟨rfl, rfl⟩
theorem eqRecMessage_x {n0} {n1} {n2} {n3} {n4} {n5} {n6} {n7} (σ : Store) (b0 : (Lit.int .i64 n0).wf = true) (b1 : (Lit.int .i64 n1).wf = true) (b2 : (Lit.int .i64 n2).wf = true) (b3 : (Lit.int .i64 n3).wf = true) (b4 : (Lit.int .i64 n4).wf = true) (b5 : (Lit.int .i64 n5).wf = true) (b6 : n6.length ≤ maxLen) (b7 : T.is (.sl 2 shRecSlot) n7) (hz : n6.length + n7.size ≤ 1099511627776) : ACalls Try.prog 37 [.agg [.t (.int .i64 n0), .t (.int .i64 n1), .t (.int .i64 n2), .t (.int .i64 n3), .t (.int .i64 n4), .t (.int .i64 n5), .t (.str n6), .t n7], .agg [.t (.int .i64 n0), .t (.int .i64 n1), .t (.int .i64 n2), .t (.int .i64 n3), .t (.int .i64 n4), .t (.int .i64 n5), .t (.str n6), .t n7]] σ (TrueR σ) := by
  have h := eqRecMessage [(.int .i64 n0), (.int .i64 n1), (.int .i64 n2), (.int .i64 n3), (.int .i64 n4), (.int .i64 n5), (.str n6), n7] σ (mkRecMessage b0 b1 b2 b3 b4 b5 b6 b7) (by rw [sizeRecMessage]; omega)
  exact h
def c_laws_toRecMessage : C := (.seq (.ops [⟨(some 1), none, (.box (.t 0))⟩, ⟨(some 2), none, (.new [(.t (.int .i64 0)), (.t (.int .i64 0)), (.t (.int .i64 0)), (.t (.int .i64 0)), (.t (.int .i64 0)), (.t (.int .i64 0)), (.t (.str [])), .nils])⟩]) (.seq (.ops [⟨(some 3), none, (.new [(.t (.int .i64 0)), (.t (.int .i64 0)), (.t (.int .i64 0)), (.t (.int .i64 0)), (.t (.int .i64 0)), (.t (.int .i64 0)), (.t (.str [])), .nils])⟩]) (.seq (.ops [⟨(some 4), none, (.fieldAddr 0 (.t 1))⟩, ⟨(some 5), none, (.load none (.t 4))⟩, ⟨(some 6), none, (.fieldAddr 0 (.t 3))⟩, ⟨none, none, (.store 1 (.t 6) (.t 5))⟩]) (.seq (.ops [⟨(some 7), none, (.fieldAddr 1 (.t 1))⟩, ⟨(some 8), none, (.load none (.t 7))⟩, ⟨(some 9), none, (.fieldAddr 1 (.t 3))⟩, ⟨none, none, (.store 1 (.t 9) (.t 8))⟩]) (.seq (.ops [⟨(some 10), none, (.fieldAddr 2 (.t 1))⟩, ⟨(some 11), none, (.load none (.t 10))⟩, ⟨(some 12), none, (.fieldAddr 2 (.t 3))⟩, ⟨none, none, (.store 1 (.t 12) (.t 11))⟩]) (.seq (.ops [⟨(some 13), none, (.fieldAddr 3 (.t 1))⟩, ⟨(some 14), none, (.load none (.t 13))⟩, ⟨(some 15), none, (.fieldAddr 3 (.t 3))⟩, ⟨none, none, (.store 1 (.t 15) (.t 14))⟩]) (.seq (.ops [⟨(some 16), none, (.fieldAddr 4 (.t 1))⟩, ⟨(some 17), none, (.load none (.t 16))⟩, ⟨(some 18), none, (.fieldAddr 4 (.t 3))⟩, ⟨none, none, (.store 1 (.t 18) (.t 17))⟩]) (.seq (.ops [⟨(some 19), none, (.fieldAddr 5 (.t 1))⟩, ⟨(some 20), none, (.load none (.t 19))⟩, ⟨(some 21), none, (.fieldAddr 5 (.t 3))⟩, ⟨none, none, (.store 1 (.t 21) (.t 20))⟩]) (.seq (.ops [⟨(some 22), none, (.fieldAddr 6 (.t 1))⟩, ⟨(some 23), none, (.load none (.t 22))⟩, ⟨(some 24), none, (.fieldAddr 6 (.t 3))⟩, ⟨none, none, (.store 1 (.t 24) (.t 23))⟩]) (.seq (.ops [⟨(some 25), none, (.fieldAddr 7 (.t 1))⟩, ⟨(some 26), none, (.load none (.t 25))⟩, ⟨(some 27), none, (.call (.c (.fn (.func 23) [])) [(.t 26)])⟩, ⟨(some 28), none, (.fieldAddr 7 (.t 3))⟩, ⟨none, none, (.store 1 (.t 28) (.t 27))⟩]) (.seq (.ops [⟨(some 29), none, (.load (some 8) (.t 3))⟩, ⟨none, none, (.store 8 (.t 2) (.t 29))⟩]) .ret)))))))))))
theorem k_laws_toRecMessage : comp Try.prog 30 (Try.f35.body.getD .skip) = some c_laws_toRecMessage := by kernel_rfl

theorem toRecMessage : ToLOk Try.prog 35 shRecMessage := by
  rintro ts σ ht h1
  obtain ⟨n0, n1, n2, n3, n4, n5, n6, n7, rfl, b0, b1, b2, b3, b4, b5, b6, b7⟩ := isRecMessage ht
  rw [sizeRecMessage] at h1
  refine acalls_of Try.func35 (by decide +kernel) (code := Try.f35.body.getD .skip) (n := 30) (c := c_laws_toRecMessage) (rs := [(.cell 2 (some 8))]) rfl rfl k_laws_toRecMessage (by kernel_rfl) (by simp) (fun hσ => ?_)
  simp -implicitDefEqProofs only [c_laws_toRecMessage, S0, S1, S2, S3, S4, S5, S6, S7, S8, S9, S10, S11, S12, S13, S14, S15, opv, opvs, eget, env0, setD, lenStr, lenSl, isNilP, isNilS, putAt, if_true, if_false, reduceCtorEq, Nat.reduceLeDiff, Nat.reduceEqDiff, Nat.reduceSub, Nat.reduceMul, Nat.reduceAdd]
  refine call_by (by rw [List.append_nil]; exact toRecSlotS n7 _ b7 (by omega)) ?_
  rintro u7 σ' ⟨τ7, j7, rfl, o7, w7⟩
  have e7 := o7.one
  simp -implicitDefEqProofs only [one_cells e7, e7, S0, S1, S2, S3, S4, S5, S6, S7, S8, S9, S10, S11, S12, S13, S14, S15, opv, opvs, eget, env0, setD, lenStr, lenSl, isNilP, isNilS, putAt, if_true, if_false, reduceCtorEq, Nat.reduceLeDiff, Nat.reduceEqDiff, Nat.reduceSub, Nat.reduceMul, Nat.reduceAdd]
  refine fin_keep (by simp) ⟨_, _, (j7 ++ []), rfl, rfl, (OwnL.int (OwnL.int (OwnL.int (OwnL.int (OwnL.int (OwnL.int (OwnL.str (OwnL.lst (own_pre (A := [_, _, _]) (A' := [_, _, _]) (B := τ7) (B' := τ7) o7 w7 (List.append_assoc ..) rfl rfl (by simp) (by simp)) OwnL.nil0)))))))), ?_⟩
  simp only [List.length_append, List.length_cons, List.length_nil] at w7 ⊢
  refine Wi.mono (a := σ.length) ?_ (Nat.le_refl _) (Nat.le_refl _)
  exact wi_last w7 (by omega) (by omega)
theorem toRecMessage_x {n0} {n1} {n2} {n3} {n4} {n5} {n6} {n7} (σ : Store) (b0 : (Lit.int .i64 n0).wf = true) (b1 : (Lit.int .i64 n1).wf = true) (b2 : (Lit.int .i64 n2).wf = true) (b3 : (Lit.int .i64 n3).wf = true) (b4 : (Lit.int .i64 n4).wf = true) (b5 : (Lit.int .i64 n5).wf = true) (b6 : n6.length ≤ maxLen) (b7 : T.is (.sl 2 shRecSlot) n7) (hz : n6.length + n7.size ≤ 1048576) : ACalls Try.prog 35 [.agg [.t (.int .i64 n0), .t (.int .i64 n1), .t (.int .i64 n2), .t (.int .i64 n3), .t (.int .i64 n4), .t (.int .i64 n5), .t (.str n6), .t n7]] σ (ToLR [(.int .i64 n0), (.int .i64 n1), (.int .i64 n2), (.int .i64 n3), (.int .i64 n4), (.int .i64 n5), (.str n6), n7] σ) := by
  have h := toRecMessage [(.int .i64 n0), (.int .i64 n1), (.int .i64 n2), (.int .i64 n3), (.int .i64 n4), (.int .i64 n5), (.str n6), n7] σ (mkRecMessage b0 b1 b2 b3 b4 b5 b6 b7) (by rw [sizeRecMessage]; omega)
  exact h
theorem i_szRecMessageS : Is Try.prog 99 27 [(.tmp 4)] (tSzS 8 33) := ⟨_, _, Try.func99, by decide +kernel, rfl, rfl, by kernel_rfl, rfl⟩
theorem szRecMessageS : SzOk Try.prog 99 (.sl 8 shRecMessage) := szS_ok rfl i_szRecMessageS szRecMessage
theorem i_eqRecMessageS : Is Try.prog 88 27 [(.tmp 4)] (tEqS 8 37) := ⟨_, _, Try.func88, by decide +kernel, rfl, rfl, by kernel_rfl, rfl⟩
theorem eqRecMessageS : EqOk Try.prog 88 (.sl 8 shRecMessage) := eqS_ok rfl i_eqRecMessageS eqRecMessage
theorem i_toRecMessageS : Is Try.prog 107 23 [(.tmp 2)] (tToS 8 88 35 [.t (.int .i64 0), .t (.int .i64 0), .t (.int .i64 0), .t (.int .i64 0), .t (.int .i64 0), .t (.int .i64 0), .t (.str []), .nils]) := ⟨_, _, Try.func107, by decide +kernel, rfl, rfl, by kernel_rfl, rfl⟩
theorem toRecMessageS : ToOk Try.prog 107 (.sl 8 shRecMessage) := toS_ok 88 [.t (.int .i64 0), .t (.int .i64 0), .t (.int .i64 0), .t (.int .i64 0), .t (.int .i64 0), .t (.int .i64 0), .t (.str []), .nils] rfl (by decide) rfl (by decide) i_toRecMessageS toRecMessage
def shRecAck : List Sh := [.int .i64, .sl 1 [.int .i64]]
theorem isRecAck {ts : List T} (ht : T.isL shRecAck ts) : ∃ n0 n1, ts = [(.int .i64 n0), n1] ∧ (Lit.int .i64 n0).wf = true ∧ T.is (.sl 1 [.int .i64]) n1 := by
  simp only [shRecAck, isL_cons, isL_nil, is_int, is_bool, is_str] at ht
  obtain ⟨_, _, rfl, ⟨n0, rfl, b0⟩, n1, _, rfl, b1, rfl⟩ := ht
  exact ⟨_, _, rfl, b0, b1⟩
theorem mkRecAck {n0} {n1} (b0 : (Lit.int .i64 n0).wf = true) (b1 : T.is (.sl 1 [.int .i64]) n1) : T.isL shRecAck [(.int .i64 n0), n1] := by
  simp only [shRecAck, isL_cons, isL_nil, is_int, is_bool, is_str]
  exact ⟨_, _, rfl, ⟨_, rfl, b0⟩, _, _, rfl, b1, rfl⟩
theorem sizeRecAck {n0} {n1} : T.sizeL [(.int .i64 n0), n1] = n1.size := by
  simp only [sizeL_cons, sizeL_nil, size_int, size_bool, size_str]
  try omega
def c_laws_szRecAck : C := (.seq (.ops [⟨(some 2), none, (.box (.t 0))⟩, ⟨(some 4), none, (.mv (.c (.t (.int .i64 0))))⟩]) (.seq (.ops [⟨(some 5), none, (.fieldAddr 1 (.t 2))⟩, ⟨(some 6), none, (.load none (.t 5))⟩, ⟨(some 7), none, (.mv (.t 1))⟩, ⟨(some 8), none, (.call (.c (.fn (.func 101) [])) [(.t 6), (.t 7)])⟩, ⟨(some 1), none, (.mv (.t 8))⟩]) (.seq (.seq (.ops [⟨(some 9), none, (.mv (.t 1))⟩, ⟨(some 10), none, (.bin .lss (.t 9) (.c (.t (.int .i64 0))))⟩]) (.cond (.t 10) (.seq (.ops [⟨(some 4), none, (.mv (.c (.t (.int .i64 (-1)))))⟩]) .ret) .skip)) (.seq (.ops [⟨(some 11), none, (.mv (.t 1))⟩, ⟨(some 4), none, (.mv (.t 11))⟩]) .ret))))
theorem k_laws_szRecAck : comp Try.prog 12 (Try.f147.body.getD .skip) = some c_laws_szRecAck := by kernel_rfl

theorem szRecAck : SzLOk Try.prog 147 shRecAck := by
  rintro ts left σ ht h0 h1
  obtain ⟨n0, n1, rfl, b0, b1⟩ := isRecAck ht
  refine acalls_of Try.func147 (by decide +kernel) (code := Try.f147.body.getD .skip) (n := 12) (c := c_laws_szRecAck) (rs := [(.tmp 4)]) rfl rfl k_laws_szRecAck (by kernel_rfl) (by simp) (fun hσ => ?_)
  try simp only [maxLen] at *
  have fin : ∀ {n : Int} {τ : Store}, n ≤ left → (0 ≤ n → ((n1.size : Nat) : Int) + n ≤ left) → retV σ.length (SzR (T.sizeL [(.int .i64 n0), n1]) left σ) (σ ++ τ) (some [.t (.int .i64 n)]) := fun h h' => ret_same rfl hσ rfl ⟨⟨_, rfl, h, fun h0 => by have := h' h0; rw [sizeRecAck]; exact this⟩, rfl⟩
  simp -implicitDefEqProofs only [c_laws_szRecAck, S0, S1, S2, S3, S4, S5, S6, S7, S8, S9, S10, S11, S12, S13, S14, S15, opv, opvs, eget, env0, setD, lenStr, lenSl, isNilP, isNilS, putAt, if_true, if_false, reduceCtorEq, Nat.reduceLeDiff, Nat.reduceEqDiff, Nat.reduceSub, Nat.reduceMul, Nat.reduceAdd]
  refine call_by (by rw [List.append_nil]; exact szIntS n1 left _ b1 (by omega) (by omega)) ?_
  rintro r σ' ⟨⟨m1, rfl, hm1, hs1⟩, rfl⟩
  try simp only [sizeRecAck] at hs1
  simp -implicitDefEqProofs only [S0, S1, S2, S3, S4, S5, S6, S7, S8, S9, S10, S11, S12, S13, S14, S15, opv, opvs, eget, env0, setD, lenStr, lenSl, isNilP, isNilS, putAt, if_true, if_false, reduceCtorEq, Nat.reduceLeDiff, Nat.reduceEqDiff, Nat.reduceSub, Nat.reduceMul, Nat.reduceAdd]
  refine cond_split (fun h => ?_) (fun h => ?_)
  · simp -implicitDefEqProofs only [S0, S1, S2, S3, S4, S5, S6, S7, S8, S9, S10, S11, S12, S13, S14, S15, opv, opvs, eget, env0, setD, lenStr, lenSl, isNilP, isNilS, putAt, if_true, if_false, reduceCtorEq, Nat.reduceLeDiff, Nat.reduceEqDiff, Nat.reduceSub, Nat.reduceMul, Nat.reduceAdd]
    simp only [decide_eq_true_eq] at h
    exact fin (by omega) (by omega)
  simp only [decide_eq_false_iff_not, Int.not_lt] at h
  replace hs1 := hs1 h
  simp -implicitDefEqProofs only [S0, S1, S2, S3, S4, S5, S6, S7, S8, S9, S10, S11, S12, S13, S14, S15, opv, opvs, eget, env0, setD, lenStr, lenSl, isNilP, isNilS, putAt, if_true, if_false, reduceCtorEq, Nat.reduceLeDiff, Nat.reduceEqDiff, Nat.reduceSub, Nat.reduceMul, Nat.reduceAdd]
  exact fin (by omega) (fun _ => by omega)
theorem szRecAck_x {n0} {n1} (left : Int) (σ : Store) (b0 : (Lit.int .i64 n0).wf = true) (b1 : T.is (.sl 1 [.int .i64]) n1) (h0 : 0 ≤ left) (h1 : left ≤ 1048576) : ACalls Try.prog 147 [.agg [.t (.int .i64 n0), .t n1], .t (.int .i64 left)] σ (SzR (T.sizeL [(.int .i64 n0), n1]) left σ) := by
  have h := szRecAck [(.int .i64 n0), n1] left σ (mkRecAck b0 b1) h0 h1
  exact h
def c_laws_eqRecAck : C := (.seq (.ops [⟨(some 2), none, (.box (.t 0))⟩, ⟨(some 3), none, (.box (.t 1))⟩, ⟨(some 4), none, (.mv (.c (.t (.bool false))))⟩]) (.seq (.seq (.ops [⟨(some 5), none, (.fieldAddr 0 (.t 2))⟩, ⟨(some 6), none, (.load none (.t 5))⟩, ⟨(some 7), none, (.fieldAddr 0 (.t 3))⟩, ⟨(some 8), none, (.load none (.t 7))⟩, ⟨(some 9), none, (.bin .neq (.t 6) (.t 8))⟩]) (.cond (.t 9) (.seq (.ops [⟨(some 4), none, (.mv (.c (.t (.bool false))))⟩]) .ret) .skip)) (.seq (.seq (.ops [⟨(some 10), none, (.fieldAddr 1 (.t 2))⟩, ⟨(some 11), none, (.load none (.t 10))⟩, ⟨(some 12), none, (.fieldAddr 1 (.t 3))⟩, ⟨(some 13), none, (.load none (.t 12))⟩, ⟨(some 14), none, (.call (.c (.fn (.func 89) [])) [(.t 11), (.t 13)])⟩, ⟨(some 15), none, (.un .not (.t 14))⟩]) (.cond (.t 15) (.seq (.ops [⟨(some 4), none, (.mv (.c (.t (.bool false))))⟩]) .ret) .skip)) (.seq (.ops [⟨(some 4), none, (.mv (.c (.t (.bool true))))⟩]) .ret))))
theorem k_laws_eqRecAck : comp Try.prog 16 (Try.f146.body.getD .skip) = some c_laws_eqRecAck := by kernel_rfl

theorem eqRecAck : EqLOk Try.prog 146 shRecAck := by
  rintro ts σ ht h1
  obtain ⟨n0, n1, rfl, b0, b1⟩ := isRecAck ht
  rw [sizeRecAck] at h1
  refine acalls_of Try.func146 (by decide +kernel) (code := Try.f146.body.getD .skip) (n := 16) (c := c_laws_eqRecAck) (rs := [(.tmp 4)]) rfl rfl k_laws_eqRecAck (by kernel_rfl) (by simp) (fun hσ => ?_)
  simp -implicitDefEqProofs only [c_laws_eqRecAck, ne_self, beq_self_eq_true, S0, S1, S2, S3, S4, S5, S6, S7, S8, S9, S10, S11, S12, S13, S14, S15, opv, opvs, eget, env0, setD, lenStr, lenSl, isNilP, isNilS, putAt, if_true, if_false, reduceCtorEq, Nat.reduceLeDiff, Nat.reduceEqDiff, Nat.reduceSub, Nat.reduceMul, Nat.reduceAdd]
  refine call_pure (eqIntS n1 _ b1 (by omega)) ?_
  simp -implicitDefEqProofs only [ne_self, beq_self_eq_true, S0, S1, S2, S3, S4, S5, S6, S7, S8, S9, S10, S11, S12, S13, S14, S15, opv, opvs, eget, env0, setD, lenStr, lenSl, isNilP, isNilS, putAt, if_true, if_false, reduceCtorEq, Nat.reduceLeDiff, Nat.reduceEqDiff, Nat.reduceSub, Nat.reduceMul, Nat.reduceAdd]
  exact ret_same rfl hσ rfl ⟨rfl, rfl⟩
theorem eqRecAck_x {n0} {n1} (σ : Store) (b0 : (Lit.int .i64 n0).wf = true) (b1 : T.is (.sl 1 [.int .i64]) n1) (hz : n1.size ≤ 1099511627776) : ACalls Try.prog 146 [.agg [.t (.int .i64 n0), .t n1], .agg [.t (.int .i64 n0), .t n1]] σ (TrueR σ) := by
  have h := eqRecAck [(.int .i64 n0), n1] σ (mkRecAck b0 b1) (by rw [sizeRecAck]; omega)
  exact h
def c_laws_toRecAck : C := (.seq (.ops [⟨(some 1), none, (.box (.t 0))⟩, ⟨(some 2), none, (.new [(.t (.int .i64 0)), .nils])⟩]) (.seq (.ops [⟨(some 3), none, (.new [(.t (.int .i64 0)), .nils])⟩]) (.seq (.ops [⟨(some 4), none, (.fieldAddr 0 (.t 1))⟩, ⟨(some 5), none, (.load none (.t 4))⟩, ⟨(some 6), none, (.fieldAddr 0 (.t 3))⟩, ⟨none, none, (.store 1 (.t 6) (.t 5))⟩]) (.seq (.ops [⟨(some 7), none, (.fieldAddr 1 (.t 1))⟩, ⟨(some 8), none, (.load none (.t 7))⟩, ⟨(some 9), none, (.call (.c (.fn (.func 109) [])) [(.t 8)])⟩, ⟨(some 10), none, (.fieldAddr 1 (.t 3))⟩, ⟨none, none, (.store 1 (.t 10) (.t 9))⟩]) (.seq (.ops [⟨(some 11), none, (.load (some 2) (.t 3))⟩, ⟨none, none, (.store 2 (.t 2) (.t 11))⟩]) .ret)))))
theorem k_laws_toRecAck : comp Try.prog 12 (Try.f148.body.getD .skip) = some c_laws_toRecAck := by kernel_rfl

theorem toRecAck : ToLOk Try.prog 148 shRecAck := by
  rintro ts σ ht h1
  obtain ⟨n0, n1, rfl, b0, b1⟩ := isRecAck ht
  rw [sizeRecAck] at h1
  refine acalls_of Try.func148 (by decide +kernel) (code := Try.f148.body.getD .skip) (n := 12) (c := c_laws_toRecAck) (rs := [(.cell 2 (some 2))]) rfl rfl k_laws_toRecAck (by kernel_rfl) (by simp) (fun hσ => ?_)
  simp -implicitDefEqProofs only [c_laws_toRecAck, S0, S1, S2, S3, S4, S5, S6, S7, S8, S9, S10, S11, S12, S13, S14, S15, opv, opvs, eget, env0, setD, lenStr, lenSl, isNilP, isNilS, putAt, if_true, if_false, reduceCtorEq, Nat.reduceLeDiff, Nat.reduceEqDiff, Nat.reduceSub, Nat.reduceMul, Nat.reduceAdd]
  refine call_by (by rw [List.append_nil]; exact toIntS n1 _ b1 (by omega)) ?_
  rintro u1 σ' ⟨τ1, j1, rfl, o1, w1⟩
  have e1 := o1.one
  simp -implicitDefEqProofs only [one_cells e1, e1, S0, S1, S2, S3, S4, S5, S6, S7, S8, S9, S10, S11, S12, S13, S14, S15, opv, opvs, eget, env0, setD, lenStr, lenSl, isNilP, isNilS, putAt, if_true, if_false, reduceCtorEq, Nat.reduceLeDiff, Nat.reduceEqDiff, Nat.reduceSub, Nat.reduceMul, Nat.reduceAdd]
  refine fin_keep (by simp) ⟨_, _, (j1 ++ []), rfl, rfl, (OwnL.int (OwnL.lst (own_pre (A := [_, _, _]) (A' := [_, _, _]) (B := τ1) (B' := τ1) o1 w1 (List.append_assoc ..) rfl rfl (by simp) (by simp)) OwnL.nil0)), ?_⟩
  simp only [List.length_append, List.length_cons, List.length_nil] at w1 ⊢
  refine Wi.mono (a := σ.length) ?_ (Nat.le_refl _) (Nat.le_refl _)
  exact wi_last w1 (by omega) (by omega)
theorem toRecAck_x {n0} {n1} (σ : Store) (b0 : (Lit.int .i64 n0).wf = true) (b1 : T.is (.sl 1 [.int .i64]) n1) (hz : n1.size ≤ 1048576) : ACalls Try.prog 148 [.agg [.t (.int .i64 n0), .t n1]] σ (ToLR [(.int .i64 n0), n1] σ) := by
  have h := toRecAck [(.int .i64 n0), n1] σ (mkRecAck b0 b1) (by rw [sizeRecAck]; omega)
  exact h
theorem i_szRecAckS : Is Try.prog 102 27 [(.tmp 4)] (tSzS 2 147) := ⟨_, _, Try.func102, by decide +kernel, rfl, rfl, by kernel_rfl, rfl⟩
theorem szRecAckS : SzOk Try.prog 102 (.sl 2 shRecAck) := szS_ok rfl i_szRecAckS szRecAck
theorem i_eqRecAckS : Is Try.prog 90 27 [(.tmp 4)] (tEqS 2 146) := ⟨_, _, Try.func90, by decide +kernel, rfl, rfl, by kernel_rfl, rfl⟩
theorem eqRecAckS : EqOk Try.prog 90 (.sl 2 shRecAck) := eqS_ok rfl i_eqRecAckS eqRecAck
theorem i_toRecAckS : Is Try.prog 110 23 [(.tmp 2)] (tToS 2 32 148 [.t (.int .i64 0), .nils]) := ⟨_, _, Try.func110, by decide +kernel, rfl, rfl, by kernel_rfl, rfl⟩
theorem toRecAckS : ToOk Try.prog 110 (.sl 2 shRecAck) := toS_ok 32 [.t (.int .i64 0), .nils] rfl (by decide) rfl (by decide) i_toRecAckS toRecAck
def shRecFix : List Sh := [.int .i64, .str]
theorem isRecFix {ts : List T} (ht : T.isL shRecFix ts) : ∃ n0 n1, ts = [(.int .i64 n0), (.str n1)] ∧ (Lit.int .i64 n0).wf = true ∧ n1.length ≤ maxLen := by
  simp only [shRecFix, isL_cons, isL_nil, is_int, is_bool, is_str] at ht
  obtain ⟨_, _, rfl, ⟨n0, rfl, b0⟩, _, _, rfl, ⟨n1, rfl, b1⟩, rfl⟩ := ht
  exact ⟨_, _, rfl, b0, b1⟩
theorem mkRecFix {n0} {n1} (b0 : (Lit.int .i64 n0).wf = true) (b1 : n1.length ≤ maxLen) : T.isL shRecFix [(.int .i64 n0), (.str n1)] := by
  simp only [shRecFix, isL_cons, isL_nil, is_int, is_bool, is_str]
  exact ⟨_, _, rfl, ⟨_, rfl, b0⟩, _, _, rfl, ⟨_, rfl, b1⟩, rfl⟩
theorem sizeRecFix {n0} {n1} : T.sizeL [(.int .i64 n0), (.str n1)] = n1.length := by
  simp only [sizeL_cons, sizeL_nil, size_int, size_bool, size_str]
  try omega
def c_laws_szRecFix : C := (.seq (.ops [⟨(some 2), none, (.box (.t 0))⟩, ⟨(some 4), none, (.mv (.c (.t (.int .i64 0))))⟩]) (.seq (.ops [⟨(some 5), none, (.mv (.t 1))⟩, ⟨(some 6), none, (.fieldAddr 1 (.t 2))⟩, ⟨(some 7), none, (.load none (.t 6))⟩, ⟨(some 8), none, (.len true (.t 7))⟩, ⟨(some 9), none, (.bin .sub (.t 5) (.t 8))⟩, ⟨(some 1), none, (.mv (.t 9))⟩]) (.seq (.seq (.ops [⟨(some 10), none, (.mv (.t 1))⟩, ⟨(some 11), none, (.bin .lss (.t 10) (.c (.t (.int .i64 0))))⟩]) (.cond (.t 11) (.seq (.ops [⟨(some 4), none, (.mv (.c (.t (.int .i64 (-1)))))⟩]) .ret) .skip)) (.seq (.ops [⟨(some 12), none, (.mv (.t 1))⟩, ⟨(some 4), none, (.mv (.t 12))⟩]) .ret))))
theorem k_laws_szRecFix : comp Try.prog 13 (Try.f151.body.getD .skip) = some c_laws_szRecFix := by kernel_rfl

theorem szRecFix : SzLOk Try.prog 151 shRecFix := by
  rintro ts left σ ht h0 h1
  obtain ⟨n0, n1, rfl, b0, b1⟩ := isRecFix ht
  refine acalls_of Try.func151 (by decide +kernel) (code := Try.f151.body.getD .skip) (n := 13) (c := c_laws_szRecFix) (rs := [(.tmp 4)]) rfl rfl k_laws_szRecFix (by kernel_rfl) (by simp) (fun hσ => ?_)
  try simp only [maxLen] at *
  have fin : ∀ {n : Int} {τ : Store}, n ≤ left → (0 ≤ n → ((n1.length : Nat) : Int) + n ≤ left) → retV σ.length (SzR (T.sizeL [(.int .i64 n0), (.str n1)]) left σ) (σ ++ τ) (some [.t (.int .i64 n)]) := fun h h' => ret_same rfl hσ rfl ⟨⟨_, rfl, h, fun h0 => by have := h' h0; rw [sizeRecFix]; exact this⟩, rfl⟩
  have w1 : IntKind.i64.wrap (left - n1.length) = left - n1.length := IntWalk.i64_in _ (by omega)
  simp -implicitDefEqProofs only [c_laws_szRecFix, w1, S0, S1, S2, S3, S4, S5, S6, S7, S8, S9, S10, S11, S12, S13, S14, S15, opv, opvs, eget, env0, setD, lenStr, lenSl, isNilP, isNilS, putAt, if_true, if_false, reduceCtorEq, Nat.reduceLeDiff, Nat.reduceEqDiff, Nat.reduceSub, Nat.reduceMul, Nat.reduceAdd]
  refine cond_split (fun h => ?_) (fun h => ?_)
  · simp -implicitDefEqProofs only [S0, S1, S2, S3, S4, S5, S6, S7, S8, S9, S10, S11, S12, S13, S14, S15, opv, opvs, eget, env0, setD, lenStr, lenSl, isNilP, isNilS, putAt, if_true, if_false, reduceCtorEq, Nat.reduceLeDiff, Nat.reduceEqDiff, Nat.reduceSub, Nat.reduceMul, Nat.reduceAdd]
    simp only [decide_eq_true_eq] at h
    exact fin (by omega) (by omega)
  simp only [decide_eq_false_iff_not, Int.not_lt] at h
  simp -implicitDefEqProofs only [S0, S1, S2, S3, S4, S5, S6, S7, S8, S9, S10, S11, S12, S13, S14, S15, opv, opvs, eget, env0, setD, lenStr, lenSl, isNilP, isNilS, putAt, if_true, if_false, reduceCtorEq, Nat.reduceLeDiff, Nat.reduceEqDiff, Nat.reduceSub, Nat.reduceMul, Nat.reduceAdd]
  exact fin (by omega) (fun _ => by omega)
theorem szRecFix_x {n0} {n1} (left : Int) (σ : Store) (b0 : (Lit.int .i64 n0).wf = true) (b1 : n1.length ≤ maxLen) (h0 : 0 ≤ left) (h1 : left ≤ 1048576) : ACalls Try.prog 151 [.agg [.t (.int .i64 n0), .t (.str n1)], .t (.int .i64 left)] σ (SzR (T.sizeL [(.int .i64 n0), (.str n1)]) left σ) := by
  have h := szRecFix [(.int .i64 n0), (.str n1)] left σ (mkRecFix b0 b1) h0 h1
  exact h
def c_laws_eqRecFix : C := (.seq (.ops [⟨(some 2), none, (.box (.t 0))⟩, ⟨(some 3), none, (.box (.t 1))⟩, ⟨(some 4), none, (.mv (.c (.t (.bool false))))⟩]) (.seq (.seq (.ops [⟨(some 5), none, (.fieldAddr 0 (.t 2))⟩, ⟨(some 6), none, (.load none (.t 5))⟩, ⟨(some 7), none, (.fieldAddr 0 (.t 3))⟩, ⟨(some 8), none, (.load none (.t 7))⟩, ⟨(some 9), none, (.bin .neq (.t 6) (.t 8))⟩]) (.cond (.t 9) (.seq (.ops [⟨(some 4), none, (.mv (.c (.t (.bool false))))⟩]) .ret) .skip)) (.seq (.seq (.ops [⟨(some 10), none, (.fieldAddr 1 (.t 2))⟩, ⟨(some 11), none, (.load none (.t 10))⟩, ⟨(some 12), none, (.fieldAddr 1 (.t 3))⟩, ⟨(some 13), none, (.load none (.t 12))⟩, ⟨(some 14), none, (.bin .neq (.t 11) (.t 13))⟩]) (.cond (.t 14) (.seq (.ops [⟨(some 4), none, (.mv (.c (.t (.bool false))))⟩]) .ret) .skip)) (.seq (.ops [⟨(some 4), none, (.mv (.c (.t (.bool true))))⟩]) .ret))))
theorem k_laws_eqRecFix : comp Try.prog 15 (Try.f150.body.getD .skip) = some c_laws_eqRecFix := by kernel_rfl

theorem eqRecFix : EqLOk Try.prog 150 shRecFix := by
  rintro ts σ ht h1
  obtain ⟨n0, n1, rfl, b0, b1⟩ := isRecFix ht
  rw [sizeRecFix] at h1
  refine acalls_of Try.func150 (by decide +kernel) (code := Try.f150.body.getD .skip) (n := 15) (c := c_laws_eqRecFix) (rs := [(.tmp 4)]) rfl rfl k_laws_eqRecFix (by kernel_rfl) (by simp) (fun hσ => ?_)
  simp -implicitDefEqProofs only [c_laws_eqRecFix, ne_self, beq_self_eq_true, S0, S1, S2, S3, S4, S5, S6, S7, S8, S9, S10, S11, S12, S13, S14, S15, opv, opvs, eget, env0, setD, lenStr, lenSl, isNilP, isNilS, putAt, if_true, if_false, reduceCtorEq, Nat.reduceLeDiff, Nat.reduceEqDiff, Nat.reduceSub, Nat.reduceMul, Nat.reduceAdd]
  exact ret_same rfl hσ rfl ⟨rfl, rfl⟩
theorem eqRecFix_x {n0} {n1} (σ : Store) (b0 : (Lit.int .i64 n0).wf = true) (b1 : n1.length ≤ maxLen) (hz : n1.length ≤ 1099511627776) : ACalls Try.prog 150 [.agg [.t (.int .i64 n0), .t (.str n1)], .agg [.t (.int .i64 n0), .t (.str n1)]] σ (TrueR σ) := by
  have h := eqRecFix [(.int .i64 n0), (.str n1)] σ (mkRecFix b0 b1) (by rw [sizeRecFix]; omega)
  exact h
def c_laws_toRecFix : C := (.seq (.ops [⟨(some 1), none, (.box (.t 0))⟩, ⟨(some 2), none, (.new [(.t (.int .i64 0)), (.t (.str []))])⟩]) (.seq (.ops [⟨(some 3), none, (.new [(.t (.int .i64 0)), (.t (.str []))])⟩]) (.seq (.ops [⟨(some 4), none, (.fieldAddr 0 (.t 1))⟩, ⟨(some 5), none, (.load none (.t 4))⟩, ⟨(some 6), none, (.fieldAddr 0 (.t 3))⟩, ⟨none, none, (.store 1 (.t 6) (.t 5))⟩]) (.seq (.ops [⟨(some 7), none, (.fieldAddr 1 (.t 1))⟩, ⟨(some 8), none, (.load none (.t 7))⟩, ⟨(some 9), none, (.fieldAddr 1 (.t 3))⟩, ⟨none, none, (.store 1 (.t 9) (.t 8))⟩]) (.seq (.ops [⟨(some 10), none, (.load (some 2) (.t 3))⟩, ⟨none, none, (.store 2 (.t 2) (.t 10))⟩]) .ret)))))
theorem k_laws_toRecFix : comp Try.prog 11 (Try.f152.body.getD .skip) = some c_laws_toRecFix := by kernel_rfl

theorem toRecFix : ToLOk Try.prog 152 shRecFix := by
  rintro ts σ ht h1
  obtain ⟨n0, n1, rfl, b0, b1⟩ := isRecFix ht
  rw [sizeRecFix] at h1
  refine acalls_of Try.func152 (by decide +kernel) (code := Try.f152.body.getD .skip) (n := 11) (c := c_laws_toRecFix) (rs := [(.cell 2 (some 2))]) rfl rfl k_laws_toRecFix (by kernel_rfl) (by simp) (fun hσ => ?_)
  simp -implicitDefEqProofs only [c_laws_toRecFix, S0, S1, S2, S3, S4, S5, S6, S7, S8, S9, S10, S11, S12, S13, S14, S15, opv, opvs, eget, env0, setD, lenStr, lenSl, isNilP, isNilS, putAt, if_true, if_false, reduceCtorEq, Nat.reduceLeDiff, Nat.reduceEqDiff, Nat.reduceSub, Nat.reduceMul, Nat.reduceAdd]
  exact fin_keep (by simp) ⟨_, _, [], rfl, rfl, (OwnL.int (OwnL.str OwnL.nil0)), Wi.nil⟩
theorem toRecFix_x {n0} {n1} (σ : Store) (b0 : (Lit.int .i64 n0).wf = true) (b1 : n1.length ≤ maxLen) (hz : n1.length ≤ 1048576) : ACalls Try.prog 152 [.agg [.t (.int .i64 n0), .t (.str n1)]] σ (ToLR [(.int .i64 n0), (.str n1)] σ) := by
  have h := toRecFix [(.int .i64 n0), (.str n1)] σ (mkRecFix b0 b1) (by rw [sizeRecFix]; omega)
  exact h
theorem i_szRecFixS : Is Try.prog 121 27 [(.tmp 4)] (tSzS 2 151) := ⟨_, _, Try.func121, by decide +kernel, rfl, rfl, by kernel_rfl, rfl⟩
theorem szRecFixS : SzOk Try.prog 121 (.sl 2 shRecFix) := szS_ok rfl i_szRecFixS szRecFix
theorem i_eqRecFixS : Is Try.prog 114 27 [(.tmp 4)] (tEqS 2 150) := ⟨_, _, Try.func114, by decide +kernel, rfl, rfl, by kernel_rfl, rfl⟩
theorem eqRecFixS : EqOk Try.prog 114 (.sl 2 shRecFix) := eqS_ok rfl i_eqRecFixS eqRecFix
theorem i_toRecFixS : Is Try.prog 123 23 [(.tmp 2)] (tToS 2 24 152 [.t (.int .i64 0), .t (.str [])]) := ⟨_, _, Try.func123, by decide +kernel, rfl, rfl, by kernel_rfl, rfl⟩
theorem toRecFixS : ToOk Try.prog 123 (.sl 2 shRecFix) := toS_ok 24 [.t (.int .i64 0), .t (.str [])] rfl (by decide) rfl (by decide) i_toRecFixS toRecFix
end Go.Proofs.Ytleilaipdhmgeaa.W

end


section
open Go Go.Ab
set_option maxHeartbeats 2000000
namespace Go.Proofs.Ytleilaipdhmgeaa.W
theorem own_app3 {σ : Store} {a0 a1 a2 : T} {u0 u1 u2 : V} {ts : List T} {us : List V} {is js : List Nat} (h : OwnL σ [a0, a1, a2] [u0, u1, u2] is) (k : OwnL σ ts us js) : OwnL σ (a0 :: a1 :: a2 :: ts) (u0 :: u1 :: u2 :: us) (is ++ js) := OwnL.app h k
theorem list3x {l : List V} (h : l.length = 3) : ∃ u0 u1 u2, l = [u0, u1, u2] := by
  match l, h with
  | [u0, u1, u2], _ => exact ⟨u0, u1, u2, rfl⟩
def shRecorder : List Sh := [.int .i64, .int .i64, .bool, .int .i64, .int .i64, .sl 2 shRecSlot, .int .i64, .int .i64, .sl 2 shRecSlot, .sl 8 shRecMessage, .sl 1 [.str], .bool, .bool, .int .i64, .sl 1 [.int .i64], .sl 2 shRecSlot, .sl 2 shRecAck, .int .i64]
theorem isRecorder {ts : List T} (ht : T.isL shRecorder ts) : ∃ n0 n1 n2 n3 n4 n5 n6 n7 n8 n9 n10 n11 n12 n13 n14 n15 n16 n17, ts = [(.int .i64 n0), (.int .i64 n1), (.bool n2), (.int .i64 n3), (.int .i64 n4), n5, (.int .i64 n6), (.int .i64 n7), n8, n9, n10, (.bool n11), (.bool n12), (.int .i64 n13), n14, n15, n16, (.int .i64 n17)] ∧ (Lit.int .i64 n0).wf = true ∧ (Lit.int .i64 n1).wf = true ∧ (Lit.int .i64 n3).wf = true ∧ (Lit.int .i64 n4).wf = true ∧ T.is (.sl 2 shRecSlot) n5 ∧ (Lit.int .i64 n6).wf = true ∧ (Lit.int .i64 n7).wf = true ∧ T.is (.sl 2 shRecSlot) n8 ∧ T.is (.sl 8 shRecMessage) n9 ∧ T.is (.sl 1 [.str]) n10 ∧ (Lit.int .i64 n13).wf = true ∧ T.is (.sl 1 [.int .i64]) n14 ∧ T.is (.sl 2 shRecSlot) n15 ∧ T.is (.sl 2 shRecAck) n16 ∧ (Lit.int .i64 n17).wf = true := by
  simp only [shRecorder, isL_cons, isL_nil, is_int, is_bool, is_str] at ht
  obtain ⟨_, _, rfl, ⟨n0, rfl, b0⟩, _, _, rfl, ⟨n1, rfl, b1⟩, _, _, rfl, ⟨n2, rfl⟩, _, _, rfl, ⟨n3, rfl, b3⟩, _, _, rfl, ⟨n4, rfl, b4⟩, n5, _, rfl, b5, _, _, rfl, ⟨n6, rfl, b6⟩, _, _, rfl, ⟨n7, rfl, b7⟩, n8, _, rfl, b8, n9, _, rfl, b9, n10, _, rfl, b10, _, _, rfl, ⟨n11, rfl⟩, _, _, rfl, ⟨n12, rfl⟩, _, _, rfl, ⟨n13, rfl, b13⟩, n14, _, rfl, b14, n15, _, rfl, b15, n16, _, rfl, b16, _, _, rfl, ⟨n17, rfl, b17⟩, rfl⟩ := ht
  exact ⟨_, _, _, _, _, _, _, _, _, _, _, _, _, _, _, _, _, _, rfl, b0, b1, b3, b4, b5, b6, b7, b8, b9, b10, b13, b14, b15, b16, b17⟩
theorem mkRecorder {n0} {n1} {n2} {n3} {n4} {n5} {n6} {n7} {n8} {n9} {n10} {n11} {n12} {n13} {n14} {n15} {n16} {n17} (b0 : (Lit.int .i64 n0).wf = true) (b1 : (Lit.int .i64 n1).wf = true) (b3 : (Lit.int .i64 n3).wf = true) (b4 : (Lit.int .i64 n4).wf = true) (b5 : T.is (.sl 2 shRecSlot) n5) (b6 : (Lit.int .i64 n6).wf = true) (b7 : (Lit.int .i64 n7).wf = true) (b8 : T.is (.sl 2 shRecSlot) n8) (b9 : T.is (.sl 8 shRecMessage) n9) (b10 : T.is (.sl 1 [.str]) n10) (b13 : (Lit.int .i64 n13).wf = true) (b14 : T.is (.sl 1 [.int .i64]) n14) (b15 : T.is (.sl 2 shRecSlot) n15) (b16 : T.is (.sl 2 shRecAck) n16) (b17 : (Lit.int .i64 n17).wf = true) : T.isL shRecorder [(.int .i64 n0), (.int .i64 n1), (.bool n2), (.int .i64 n3), (.int .i64 n4), n5, (.int .i64 n6), (.int .i64 n7), n8, n9, n10, (.bool n11), (.bool n12), (.int .i64 n13), n14, n15, n16, (.int .i64 n17)] := by
  simp only [shRecorder, isL_cons, isL_nil, is_int, is_bool, is_str]
  exact ⟨_, _, rfl, ⟨_, rfl, b0⟩, _, _, rfl, ⟨_, rfl, b1⟩, _, _, rfl, ⟨_, rfl⟩, _, _, rfl, ⟨_, rfl, b3⟩, _, _, rfl, ⟨_, rfl, b4⟩, _, _, rfl, b5, _, _, rfl, ⟨_, rfl, b6⟩, _, _, rfl, ⟨_, rfl, b7⟩, _, _, rfl, b8, _, _, rfl, b9, _, _, rfl, b10, _, _, rfl, ⟨_, rfl⟩, _, _, rfl, ⟨_, rfl⟩, _, _, rfl, ⟨_, rfl, b13⟩, _, _, rfl, b14, _, _, rfl, b15, _, _, rfl, b16, _, _, rfl, ⟨_, rfl, b17⟩, rfl⟩
theorem sizeRecorder {n0} {n1} {n2} {n3} {n4} {n5} {n6} {n7} {n8} {n9} {n10} {n11} {n12} {n13} {n14} {n15} {n16} {n17} : T.sizeL [(.int .i64 n0), (.int .i64 n1), (.bool n2), (.int .i64 n3), (.int .i64 n4), n5, (.int .i64 n6), (.int .i64 n7), n8, n9, n10, (.bool n11), (.bool n12), (.int .i64 n13), n14, n15, n16, (.int .i64 n17)] = n5.size + n8.size + n9.size + n10.size + n14.size + n15.size + n16.size := by
  simp only [sizeL_cons, sizeL_nil, size_int, size_bool, size_str]
  try omega
def c_laws_szRecorder : C := (.seq (.ops [⟨(some 2), none, (.box (.t 0))⟩, ⟨(some 4), none, (.mv (.c (.t (.int .i64 0))))⟩]) (.seq (.ops [⟨(some 5), none, (.fieldAddr 3 (.t 2))⟩, ⟨(some 6), none, (.load (some 3) (.t 5))⟩, ⟨(some 7), none, (.mv (.t 1))⟩, ⟨(some 8), none, (.call (.c (.fn (.func 28) [])) [(.t 6), (.t 7)])⟩, ⟨(some 1), none, (.mv (.t 8))⟩]) (.seq (.seq (.ops [⟨(some 9), none, (.mv (.t 1))⟩, ⟨(some 10), none, (.bin .lss (.t 9) (.c (.t (.int .i64 0))))⟩]) (.cond (.t 10) (.seq (.ops [⟨(some 4), none, (.mv (.c (.t (.int .i64 (-1)))))⟩]) .ret) .skip)) (.seq (.ops [⟨(some 11), none, (.fieldAddr 6 (.t 2))⟩, ⟨(some 12), none, (.load (some 3) (.t 11))⟩, ⟨(some 13), none, (.mv (.t 1))⟩, ⟨(some 14), none, (.call (.c (.fn (.func 28) [])) [(.t 12), (.t 13)])⟩, ⟨(some 1), none, (.mv (.t 14))⟩]) (.seq (.seq (.ops [⟨(some 15), none, (.mv (.t 1))⟩, ⟨(some 16), none, (.bin .lss (.t 15) (.c (.t (.int .i64 0))))⟩]) (.cond (.t 16) (.seq (.ops [⟨(some 4), none, (.mv (.c (.t (.int .i64 (-1)))))⟩]) .ret) .skip)) (.seq (.ops [⟨(some 17), none, (.fieldAddr 9 (.t 2))⟩, ⟨(some 18), none, (.load none (.t 17))⟩, ⟨(some 19), none, (.mv (.t 1))⟩, ⟨(some 20), none, (.call (.c (.fn (.func 99) [])) [(.t 18), (.t 19)])⟩, ⟨(some 1), none, (.mv (.t 20))⟩]) (.seq (.seq (.ops [⟨(some 21), none, (.mv (.t 1))⟩, ⟨(some 22), none, (.bin .lss (.t 21) (.c (.t (.int .i64 0))))⟩]) (.cond (.t 22) (.seq (.ops [⟨(some 4), none, (.mv (.c (.t (.int .i64 (-1)))))⟩]) .ret) .skip)) (.seq (.ops [⟨(some 23), none, (.fieldAddr 10 (.t 2))⟩, ⟨(some 24), none, (.load none (.t 23))⟩, ⟨(some 25), none, (.mv (.t 1))⟩, ⟨(some 26), none, (.call (.c (.fn (.func 100) [])) [(.t 24), (.t 25)])⟩, ⟨(some 1), none, (.mv (.t 26))⟩]) (.seq (.seq (.ops [⟨(some 27), none, (.mv (.t 1))⟩, ⟨(some 28), none, (.bin .lss (.t 27) (.c (.t (.int .i64 0))))⟩]) (.cond (.t 28) (.seq (.ops [⟨(some 4), none, (.mv (.c (.t (.int .i64 (-1)))))⟩]) .ret) .skip)) (.seq (.ops [⟨(some 29), none, (.fieldAddr 14 (.t 2))⟩, ⟨(some 30), none, (.load none (.t 29))⟩, ⟨(some 31), none, (.mv (.t 1))⟩, ⟨(some 32), none, (.call (.c (.fn (.func 101) [])) [(.t 30), (.t 31)])⟩, ⟨(some 1), none, (.mv (.t 32))⟩]) (.seq (.seq (.ops [⟨(some 33), none, (.mv (.t 1))⟩, ⟨(some 34), none, (.bin .lss (.t 33) (.c (.t (.int .i64 0))))⟩]) (.cond (.t 34) (.seq (.ops [⟨(some 4), none, (.mv (.c (.t (.int .i64 (-1)))))⟩]) .ret) .skip)) (.seq (.ops [⟨(some 35), none, (.fieldAddr 15 (.t 2))⟩, ⟨(some 36), none, (.load none (.t 35))⟩, ⟨(some 37), none, (.mv (.t 1))⟩, ⟨(some 38), none, (.call (.c (.fn (.func 21) [])) [(.t 36), (.t 37)])⟩, ⟨(some 1), none, (.mv (.t 38))⟩]) (.seq (.seq (.ops [⟨(some 39), none, (.mv (.t 1))⟩, ⟨(some 40), none, (.bin .lss (.t 39) (.c (.t (.int .i64 0))))⟩]) (.cond (.t 40) (.seq (.ops [⟨(some 4), none, (.mv (.c (.t (.int .i64 (-1)))))⟩]) .ret) .skip)) (.seq (.ops [⟨(some 41), none, (.fieldAddr 16 (.t 2))⟩, ⟨(some 42), none, (.load none (.t 41))⟩, ⟨(some 43), none, (.mv (.t 1))⟩, ⟨(some 44), none, (.call (.c (.fn (.func 102) [])) [(.t 42), (.t 43)])⟩, ⟨(some 1), none, (.mv (.t 44))⟩]) (.seq (.seq (.ops [⟨(some 45), none, (.mv (.t 1))⟩, ⟨(some 46), none, (.bin .lss (.t 45) (.c (.t (.int .i64 0))))⟩]) (.cond (.t 46) (.seq (.ops [⟨(some 4), none, (.mv (.c (.t (.int .i64 (-1)))))⟩]) .ret) .skip)) (.seq (.ops [⟨(some 47), none, (.mv (.t 1))⟩, ⟨(some 4), none, (.mv (.t 47))⟩]) .ret))))))))))))))))
theorem k_laws_szRecorder : comp Try.prog 48 (Try.f43.body.getD .skip) = some c_laws_szRecorder := by kernel_rfl

theorem szRecorder : SzLOk Try.prog 43 shRecorder := by
  rintro ts left σ ht h0 h1
  obtain ⟨n0, n1, n2, n3, n4, n5, n6, n7, n8, n9, n10, n11, n12, n13, n14, n15, n16, n17, rfl, b0, b1, b3, b4, b5, b6, b7, b8, b9, b10, b13, b14, b15, b16, b17⟩ := isRecorder ht
  refine acalls_of Try.func43 (by decide +kernel) (code := Try.f43.body.getD .skip) (n := 48) (c := c_laws_szRecorder) (rs := [(.tmp 4)]) rfl rfl k_laws_szRecorder (by kernel_rfl) (by simp) (fun hσ => ?_)
  try simp only [maxLen] at *
  have fin : ∀ {n : Int} {τ : Store}, n ≤ left → (0 ≤ n → ((n5.size + n8.size + n9.size + n10.size + n14.size + n15.size + n16.size : Nat) : Int) + n ≤ left) → retV σ.length (SzR (T.sizeL [(.int .i64 n0), (.int .i64 n1), (.bool n2), (.int .i64 n3), (.int .i64 n4), n5, (.int .i64 n6), (.int .i64 n7), n8, n9, n10, (.bool n11), (.bool n12), (.int .i64 n13), n14, n15, n16, (.int .i64 n17)]) left σ) (σ ++ τ) (some [.t (.int .i64 n)]) := fun h h' => ret_same rfl hσ rfl ⟨⟨_, rfl, h, fun h0 => by have := h' h0; rw [sizeRecorder]; exact this⟩, rfl⟩
  simp -implicitDefEqProofs only [c_laws_szRecorder, S0, S1, S2, S3, S4, S5, S6, S7, S8, S9, S10, S11, S12, S13, S14, S15, opv, opvs, eget, env0, setD, lenStr, lenSl, isNilP, isNilS, putAt, if_true, if_false, reduceCtorEq, Nat.reduceLeDiff, Nat.reduceEqDiff, Nat.reduceSub, Nat.reduceMul, Nat.reduceAdd]
  refine call_by (by rw [List.append_nil]; exact szRecDisk_x  left _ b3 b4 b5 (by omega) (by omega)) ?_
  rintro r σ' ⟨⟨m3, rfl, hm3, hs3⟩, rfl⟩
  try simp only [sizeRecDisk] at hs3
  simp -implicitDefEqProofs only [S0, S1, S2, S3, S4, S5, S6, S7, S8, S9, S10, S11, S12, S13, S14, S15, opv, opvs, eget, env0, setD, lenStr, lenSl, isNilP, isNilS, putAt, if_true, if_false, reduceCtorEq, Nat.reduceLeDiff, Nat.reduceEqDiff, Nat.reduceSub, Nat.reduceMul, Nat.reduceAdd]
  refine cond_split (fun h => ?_) (fun h => ?_)
  · simp -implicitDefEqProofs only [S0, S1, S2, S3, S4, S5, S6, S7, S8, S9, S10, S11, S12, S13, S14, S15, opv, opvs, eget, env0, setD, lenStr, lenSl, isNilP, isNilS, putAt, if_true, if_false, reduceCtorEq, Nat.reduceLeDiff, Nat.reduceEqDiff, Nat.reduceSub, Nat.reduceMul, Nat.reduceAdd]
    simp only [decide_eq_true_eq] at h
    exact fin (by omega) (by omega)
  simp only [decide_eq_false_iff_not, Int.not_lt] at h
  replace hs3 := hs3 h
  simp -implicitDefEqProofs only [S0, S1, S2, S3, S4, S5, S6, S7, S8, S9, S10, S11, S12, S13, S14, S15, opv, opvs, eget, env0, setD, lenStr, lenSl, isNilP, isNilS, putAt, if_true, if_false, reduceCtorEq, Nat.reduceLeDiff, Nat.reduceEqDiff, Nat.reduceSub, Nat.reduceMul, Nat.reduceAdd]
  refine call_by (by rw [List.append_nil]; exact szRecDisk_x  m3 _ b6 b7 b8 (by omega) (by omega)) ?_
  rintro r σ' ⟨⟨m6, rfl, hm6, hs6⟩, rfl⟩
  try simp only [sizeRecDisk] at hs6
  simp -implicitDefEqProofs only [S0, S1, S2, S3, S4, S5, S6, S7, S8, S9, S10, S11, S12, S13, S14, S15, opv, opvs, eget, env0, setD, lenStr, lenSl, isNilP, isNilS, putAt, if_true, if_false, reduceCtorEq, Nat.reduceLeDiff, Nat.reduceEqDiff, Nat.reduceSub, Nat.reduceMul, Nat.reduceAdd]
  refine cond_split (fun h => ?_) (fun h => ?_)
  · simp -implicitDefEqProofs only [S0, S1, S2, S3, S4, S5, S6, S7, S8, S9, S10, S11, S12, S13, S14, S15, opv, opvs, eget, env0, setD, lenStr, lenSl, isNilP, isNilS, putAt, if_true, if_false, reduceCtorEq, Nat.reduceLeDiff, Nat.reduceEqDiff, Nat.reduceSub, Nat.reduceMul, Nat.reduceAdd]
    simp only [decide_eq_true_eq] at h
    exact fin (by omega) (by omega)
  simp only [decide_eq_false_iff_not, Int.not_lt] at h
  replace hs6 := hs6 h
  simp -implicitDefEqProofs only [S0, S1, S2, S3, S4, S5, S6, S7, S8, S9, S10, S11, S12, S13, S14, S15, opv, opvs, eget, env0, setD, lenStr, lenSl, isNilP, isNilS, putAt, if_true, if_false, reduceCtorEq, Nat.reduceLeDiff, Nat.reduceEqDiff, Nat.reduceSub, Nat.reduceMul, Nat.reduceAdd]
  refine call_by (by rw [List.append_nil]; exact szRecMessageS n9 m6 _ b9 (by omega) (by omega)) ?_
  rintro r σ' ⟨⟨m9, rfl, hm9, hs9⟩, rfl⟩
  try simp only [sizeRecorder] at hs9
  simp -implicitDefEqProofs only [S0, S1, S2, S3, S4, S5, S6, S7, S8, S9, S10, S11, S12, S13, S14, S15, opv, opvs, eget, env0, setD, lenStr, lenSl, isNilP, isNilS, putAt, if_true, if_false, reduceCtorEq, Nat.reduceLeDiff, Nat.reduceEqDiff, Nat.reduceSub, Nat.reduceMul, Nat.reduceAdd]
  refine cond_split (fun h => ?_) (fun h => ?_)
  · simp -implicitDefEqProofs only [S0, S1, S2, S3, S4, S5, S6, S7, S8, S9, S10, S11, S12, S13, S14, S15, opv, opvs, eget, env0, setD, lenStr, lenSl, isNilP, isNilS, putAt, if_true, if_false, reduceCtorEq, Nat.reduceLeDiff, Nat.reduceEqDiff, Nat.reduceSub, Nat.reduceMul, Nat.reduceAdd]
    simp only [decide_eq_true_eq] at h
    exact fin (by omega) (by omega)
  simp only [decide_eq_false_iff_not, Int.not_lt] at h
  replace hs9 := hs9 h
  simp -implicitDefEqProofs only [S0, S1, S2, S3, S4, S5, S6, S7, S8, S9, S10, S11, S12, S13, S14, S15, opv, opvs, eget, env0, setD, lenStr, lenSl, isNilP, isNilS, putAt, if_true, if_false, reduceCtorEq, Nat.reduceLeDiff, Nat.reduceEqDiff, Nat.reduceSub, Nat.reduceMul, Nat.reduceAdd]
  refine call_by (by rw [List.append_nil]; exact szStringS n10 m9 _ b10 (by omega) (by omega)) ?_
  rintro r σ' ⟨⟨m10, rfl, hm10, hs10⟩, rfl⟩
  try simp only [sizeRecorder] at hs10
  simp -implicitDefEqProofs only [S0, S1, S2, S3, S4, S5, S6, S7, S8, S9, S10, S11, S12, S13, S14, S15, opv, opvs, eget, env0, setD, lenStr, lenSl, isNilP, isNilS, putAt, if_true, if_false, reduceCtorEq, Nat.reduceLeDiff, Nat.reduceEqDiff, Nat.reduceSub, Nat.reduceMul, Nat.reduceAdd]
  refine cond_split (fun h => ?_) (fun h => ?_)
  · simp -implicitDefEqProofs only [S0, S1, S2, S3, S4, S5, S6, S7, S8, S9, S10, S11, S12, S13, S14, S15, opv, opvs, eget, env0, setD, lenStr, lenSl, isNilP, isNilS, putAt, if_true, if_false, reduceCtorEq, Nat.reduceLeDiff, Nat.reduceEqDiff, Nat.reduceSub, Nat.reduceMul, Nat.reduceAdd]
    simp only [decide_eq_true_eq] at h
    exact fin (by omega) (by omega)
  simp only [decide_eq_false_iff_not, Int.not_lt] at h
  replace hs10 := hs10 h
  simp -implicitDefEqProofs only [S0, S1, S2, S3, S4, S5, S6, S7, S8, S9, S10, S11, S12, S13, S14, S15, opv, opvs, eget, env0, setD, lenStr, lenSl, isNilP, isNilS, putAt, if_true, if_false, reduceCtorEq, Nat.reduceLeDiff, Nat.reduceEqDiff, Nat.reduceSub, Nat.reduceMul, Nat.reduceAdd]
  refine call_by (by rw [List.append_nil]; exact szIntS n14 m10 _ b14 (by omega) (by omega)) ?_
  rintro r σ' ⟨⟨m14, rfl, hm14, hs14⟩, rfl⟩
  try simp only [sizeRecorder] at hs14
  simp -implicitDefEqProofs only [S0, S1, S2, S3, S4, S5, S6, S7, S8, S9, S10, S11, S12, S13, S14, S15, opv, opvs, eget, env0, setD, lenStr, lenSl, isNilP, isNilS, putAt, if_true, if_false, reduceCtorEq, Nat.reduceLeDiff, Nat.reduceEqDiff, Nat.reduceSub, Nat.reduceMul, Nat.reduceAdd]
  refine cond_split (fun h => ?_) (fun h => ?_)
  · simp -implicitDefEqProofs only [S0, S1, S2, S3, S4, S5, S6, S7, S8, S9, S10, S11, S12, S13, S14, S15, opv, opvs, eget, env0, setD, lenStr, lenSl, isNilP, isNilS, putAt, if_true, if_false, reduceCtorEq, Nat.reduceLeDiff, Nat.reduceEqDiff, Nat.reduceSub, Nat.reduceMul, Nat.reduceAdd]
    simp only [decide_eq_true_eq] at h
    exact fin (by omega) (by omega)
  simp only [decide_eq_false_iff_not, Int.not_lt] at h
  replace hs14 := hs14 h
  simp -implicitDefEqProofs only [S0, S1, S2, S3, S4, S5, S6, S7, S8, S9, S10, S11, S12, S13, S14, S15, opv, opvs, eget, env0, setD, lenStr, lenSl, isNilP, isNilS, putAt, if_true, if_false, reduceCtorEq, Nat.reduceLeDiff, Nat.reduceEqDiff, Nat.reduceSub, Nat.reduceMul, Nat.reduceAdd]
  refine call_by (by rw [List.append_nil]; exact szRecSlotS n15 m14 _ b15 (by omega) (by omega)) ?_
  rintro r σ' ⟨⟨m15, rfl, hm15, hs15⟩, rfl⟩
  try simp only [sizeRecorder] at hs15
  simp -implicitDefEqProofs only [S0, S1, S2, S3, S4, S5, S6, S7, S8, S9, S10, S11, S12, S13, S14, S15, opv, opvs, eget, env0, setD, lenStr, lenSl, isNilP, isNilS, putAt, if_true, if_false, reduceCtorEq, Nat.reduceLeDiff, Nat.reduceEqDiff, Nat.reduceSub, Nat.reduceMul, Nat.reduceAdd]
  refine cond_split (fun h => ?_) (fun h => ?_)
  · simp -implicitDefEqProofs only [S0, S1, S2, S3, S4, S5, S6, S7, S8, S9, S10, S11, S12, S13, S14, S15, opv, opvs, eget, env0, setD, lenStr, lenSl, isNilP, isNilS, putAt, if_true, if_false, reduceCtorEq, Nat.reduceLeDiff, Nat.reduceEqDiff, Nat.reduceSub, Nat.reduceMul, Nat.reduceAdd]
    simp only [decide_eq_true_eq] at h
    exact fin (by omega) (by omega)
  simp only [decide_eq_false_iff_not, Int.not_lt] at h
  replace hs15 := hs15 h
  simp -implicitDefEqProofs only [S0, S1, S2, S3, S4, S5, S6, S7, S8, S9, S10, S11, S12, S13, S14, S15, opv, opvs, eget, env0, setD, lenStr, lenSl, isNilP, isNilS, putAt, if_true, if_false, reduceCtorEq, Nat.reduceLeDiff, Nat.reduceEqDiff, Nat.reduceSub, Nat.reduceMul, Nat.reduceAdd]
  refine call_by (by rw [List.append_nil]; exact szRecAckS n16 m15 _ b16 (by omega) (by omega)) ?_
  rintro r σ' ⟨⟨m16, rfl, hm16, hs16⟩, rfl⟩
  try simp only [sizeRecorder] at hs16
  simp -implicitDefEqProofs only [S0, S1, S2, S3, S4, S5, S6, S7, S8, S9, S10, S11, S12, S13, S14, S15, opv, opvs, eget, env0, setD, lenStr, lenSl, isNilP, isNilS, putAt, if_true, if_false, reduceCtorEq, Nat.reduceLeDiff, Nat.reduceEqDiff, Nat.reduceSub, Nat.reduceMul, Nat.reduceAdd]
  refine cond_split (fun h => ?_) (fun h => ?_)
  · simp -implicitDefEqProofs only [S0, S1, S2, S3, S4, S5, S6, S7, S8, S9, S10, S11, S12, S13, S14, S15, opv, opvs, eget, env0, setD, lenStr, lenSl, isNilP, isNilS, putAt, if_true, if_false, reduceCtorEq, Nat.reduceLeDiff, Nat.reduceEqDiff, Nat.reduceSub, Nat.reduceMul, Nat.reduceAdd]
    simp only [decide_eq_true_eq] at h
    exact fin (by omega) (by omega)
  simp only [decide_eq_false_iff_not, Int.not_lt] at h
  replace hs16 := hs16 h
  simp -implicitDefEqProofs only [S0, S1, S2, S3, S4, S5, S6, S7, S8, S9, S10, S11, S12, S13, S14, S15, opv, opvs, eget, env0, setD, lenStr, lenSl, isNilP, isNilS, putAt, if_true, if_false, reduceCtorEq, Nat.reduceLeDiff, Nat.reduceEqDiff, Nat.reduceSub, Nat.reduceMul, Nat.reduceAdd]
  exact fin (by omega) (fun _ => by omega)
theorem szRecorder_x {n0} {n1} {n2} {n3} {n4} {n5} {n6} {n7} {n8} {n9} {n10} {n11} {n12} {n13} {n14} {n15} {n16} {n17} (left : Int) (σ : Store) (b0 : (Lit.int .i64 n0).wf = true) (b1 : (Lit.int .i64 n1).wf = true) (b3 : (Lit.int .i64 n3).wf = true) (b4 : (Lit.int .i64 n4).wf = true) (b5 : T.is (.sl 2 shRecSlot) n5) (b6 : (Lit.int .i64 n6).wf = true) (b7 : (Lit.int .i64 n7).wf = true) (b8 : T.is (.sl 2 shRecSlot) n8) (b9 : T.is (.sl 8 shRecMessage) n9) (b10 : T.is (.sl 1 [.str]) n10) (b13 : (Lit.int .i64 n13).wf = true) (b14 : T.is (.sl 1 [.int .i64]) n14) (b15 : T.is (.sl 2 shRecSlot) n15) (b16 : T.is (.sl 2 shRecAck) n16) (b17 : (Lit.int .i64 n17).wf = true) (h0 : 0 ≤ left) (h1 : left ≤ 1048576) : ACalls Try.prog 43 [.agg [.t (.int .i64 n0), .t (.int .i64 n1), .t (.bool n2), .t (.int .i64 n3), .t (.int .i64 n4), .t n5, .t (.int .i64 n6), .t (.int .i64 n7), .t n8, .t n9, .t n10, .t (.bool n11), .t (.bool n12), .t (.int .i64 n13), .t n14, .t n15, .t n16, .t (.int .i64 n17)], .t (.int .i64 left)] σ (SzR (T.sizeL [(.int .i64 n0), (.int .i64 n1), (.bool n2), (.int .i64 n3), (.int .i64 n4), n5, (.int .i64 n6), (.int .i64 n7), n8, n9, n10, (.bool n11), (.bool n12), (.int .i64 n13), n14, n15, n16, (.int .i64 n17)]) left σ) := by
  have h := szRecorder [(.int .i64 n0), (.int .i64 n1), (.bool n2), (.int .i64 n3), (.int .i64 n4), n5, (.int .i64 n6), (.int .i64 n7), n8, n9, n10, (.bool n11), (.bool n12), (.int .i64 n13), n14, n15, n16, (.int .i64 n17)] left σ (mkRecorder b0 b1 b3 b4 b5 b6 b7 b8 b9 b10 b13 b14 b15 b16 b17) h0 h1
  exact h
def c_laws_eqRecorder : C := (.seq (.ops [⟨(some 2), none, (.box (.t 0))⟩, ⟨(some 3), none, (.box (.t 1))⟩, ⟨(some 4), none, (.mv (.c (.t (.bool false))))⟩]) (.seq (.seq (.ops [⟨(some 5), none, (.fieldAddr 0 (.t 2))⟩, ⟨(some 6), none, (.load none (.t 5))⟩, ⟨(some 7), none, (.fieldAddr 0 (.t 3))⟩, ⟨(some 8), none, (.load none (.t 7))⟩, ⟨(some 9), none, (.bin .neq (.t 6) (.t 8))⟩]) (.cond (.t 9) (.seq (.ops [⟨(some 4), none, (.mv (.c (.t (.bool false))))⟩]) .ret) .skip)) (.seq (.seq (.ops [⟨(some 10), none, (.fieldAddr 1 (.t 2))⟩, ⟨(some 11), none, (.load none (.t 10))⟩, ⟨(some 12), none, (.fieldAddr 1 (.t 3))⟩, ⟨(some 13), none, (.load none (.t 12))⟩, ⟨(some 14), none, (.bin .neq (.t 11) (.t 13))⟩]) (.cond (.t 14) (.seq (.ops [⟨(some 4), none, (.mv (.c (.t (.bool false))))⟩]) .ret) .skip)) (.seq (.seq (.ops [⟨(some 15), none, (.fieldAddr 2 (.t 2))⟩, ⟨(some 16), none, (.load none (.t 15))⟩, ⟨(some 17), none, (.fieldAddr 2 (.t 3))⟩, ⟨(some 18), none, (.load none (.t 17))⟩, ⟨(some 19), none, (.eqB true (.t 16) (.t 18))⟩]) (.cond (.t 19) (.seq (.ops [⟨(some 4), none, (.mv (.c (.t (.bool false))))⟩]) .ret) .skip)) (.seq (.seq (.ops [⟨(some 20), none, (.fieldAddr 3 (.t 2))⟩, ⟨(some 21), none, (.load (some 3) (.t 20))⟩, ⟨(some 22), none, (.fieldAddr 3 (.t 3))⟩, ⟨(some 23), none, (.load (some 3) (.t 22))⟩, ⟨(some 24), none, (.call (.c (.fn (.func 32) [])) [(.t 21), (.t 23)])⟩, ⟨(some 25), none, (.un .not (.t 24))⟩]) (.cond (.t 25) (.seq (.ops [⟨(some 4), none, (.mv (.c (.t (.bool false))))⟩]) .ret) .skip)) (.seq (.seq (.ops [⟨(some 26), none, (.fieldAddr 6 (.t 2))⟩, ⟨(some 27), none, (.load (some 3) (.t 26))⟩, ⟨(some 28), none, (.fieldAddr 6 (.t 3))⟩, ⟨(some 29), none, (.load (some 3) (.t 28))⟩, ⟨(some 30), none, (.call (.c (.fn (.func 32) [])) [(.t 27), (.t 29)])⟩, ⟨(some 31), none, (.un .not (.t 30))⟩]) (.cond (.t 31) (.seq (.ops [⟨(some 4), none, (.mv (.c (.t (.bool false))))⟩]) .ret) .skip)) (.seq (.seq (.ops [⟨(some 32), none, (.fieldAddr 9 (.t 2))⟩, ⟨(some 33), none, (.load none (.t 32))⟩, ⟨(some 34), none, (.fieldAddr 9 (.t 3))⟩, ⟨(some 35), none, (.load none (.t 34))⟩, ⟨(some 36), none, (.call (.c (.fn (.func 88) [])) [(.t 33), (.t 35)])⟩, ⟨(some 37), none, (.un .not (.t 36))⟩]) (.cond (.t 37) (.seq (.ops [⟨(some 4), none, (.mv (.c (.t (.bool false))))⟩]) .ret) .skip)) (.seq (.seq (.ops [⟨(some 38), none, (.fieldAddr 10 (.t 2))⟩, ⟨(some 39), none, (.load none (.t 38))⟩, ⟨(some 40), none, (.fieldAddr 10 (.t 3))⟩, ⟨(some 41), none, (.load none (.t 40))⟩, ⟨(some 42), none, (.call (.c (.fn (.func 54) [])) [(.t 39), (.t 41)])⟩, ⟨(some 43), none, (.un .not (.t 42))⟩]) (.cond (.t 43) (.seq (.ops [⟨(some 4), none, (.mv (.c (.t (.bool false))))⟩]) .ret) .skip)) (.seq (.seq (.ops [⟨(some 44), none, (.fieldAddr 11 (.t 2))⟩, ⟨(some 45), none, (.load none (.t 44))⟩, ⟨(some 46), none, (.fieldAddr 11 (.t 3))⟩, ⟨(some 47), none, (.load none (.t 46))⟩, ⟨(some 48), none, (.eqB true (.t 45) (.t 47))⟩]) (.cond (.t 48) (.seq (.ops [⟨(some 4), none, (.mv (.c (.t (.bool false))))⟩]) .ret) .skip)) (.seq (.seq (.ops [⟨(some 49), none, (.fieldAddr 12 (.t 2))⟩, ⟨(some 50), none, (.load none (.t 49))⟩, ⟨(some 51), none, (.fieldAddr 12 (.t 3))⟩, ⟨(some 52), none, (.load none (.t 51))⟩, ⟨(some 53), none, (.eqB true (.t 50) (.t 52))⟩]) (.cond (.t 53) (.seq (.ops [⟨(some 4), none, (.mv (.c (.t (.bool false))))⟩]) .ret) .skip)) (.seq (.seq (.ops [⟨(some 54), none, (.fieldAddr 13 (.t 2))⟩, ⟨(some 55), none, (.load none (.t 54))⟩, ⟨(some 56), none, (.fieldAddr 13 (.t 3))⟩, ⟨(some 57), none, (.load none (.t 56))⟩, ⟨(some 58), none, (.bin .neq (.t 55) (.t 57))⟩]) (.cond (.t 58) (.seq (.ops [⟨(some 4), none, (.mv (.c (.t (.bool false))))⟩]) .ret) .skip)) (.seq (.seq (.ops [⟨(some 59), none, (.fieldAddr 14 (.t 2))⟩, ⟨(some 60), none, (.load none (.t 59))⟩, ⟨(some 61), none, (.fieldAddr 14 (.t 3))⟩, ⟨(some 62), none, (.load none (.t 61))⟩, ⟨(some 63), none, (.call (.c (.fn (.func 89) [])) [(.t 60), (.t 62)])⟩, ⟨(some 64), none, (.un .not (.t 63))⟩]) (.cond (.t 64) (.seq (.ops [⟨(some 4), none, (.mv (.c (.t (.bool false))))⟩]) .ret) .skip)) (.seq (.seq (.ops [⟨(some 65), none, (.fieldAddr 15 (.t 2))⟩, ⟨(some 66), none, (.load none (.t 65))⟩, ⟨(some 67), none, (.fieldAddr 15 (.t 3))⟩, ⟨(some 68), none, (.load none (.t 67))⟩, ⟨(some 69), none, (.call (.c (.fn (.func 25) [])) [(.t 66), (.t 68)])⟩, ⟨(some 70), none, (.un .not (.t 69))⟩]) (.cond (.t 70) (.seq (.ops [⟨(some 4), none, (.mv (.c (.t (.bool false))))⟩]) .ret) .skip)) (.seq (.seq (.ops [⟨(some 71), none, (.fieldAddr 16 (.t 2))⟩, ⟨(some 72), none, (.load none (.t 71))⟩, ⟨(some 73), none, (.fieldAddr 16 (.t 3))⟩, ⟨(some 74), none, (.load none (.t 73))⟩, ⟨(some 75), none, (.call (.c (.fn (.func 90) [])) [(.t 72), (.t 74)])⟩, ⟨(some 76), none, (.un .not (.t 75))⟩]) (.cond (.t 76) (.seq (.ops [⟨(some 4), none, (.mv (.c (.t (.bool false))))⟩]) .ret) .skip)) (.seq (.seq (.ops [⟨(some 77), none, (.fieldAddr 17 (.t 2))⟩, ⟨(some 78), none, (.load none (.t 77))⟩, ⟨(some 79), none, (.fieldAddr 17 (.t 3))⟩, ⟨(some 80), none, (.load none (.t 79))⟩, ⟨(some 81), none, (.bin .neq (.t 78) (.t 80))⟩]) (.cond (.t 81) (.seq (.ops [⟨(some 4), none, (.mv (.c (.t (.bool false))))⟩]) .ret) .skip)) (.seq (.ops [⟨(some 4), none, (.mv (.c (.t (.bool true))))⟩]) .ret))))))))))))))))
theorem k_laws_eqRecorder : comp Try.prog 82 (Try.f40.body.getD .skip) = some c_laws_eqRecorder := by kernel_rfl

theorem eqRecorder : EqLOk Try.prog 40 shRecorder := by
  rintro ts σ ht h1
  obtain ⟨n0, n1, n2, n3, n4, n5, n6, n7, n8, n9, n10, n11, n12, n13, n14, n15, n16, n17, rfl, b0, b1, b3, b4, b5, b6, b7, b8, b9, b10, b13, b14, b15, b16, b17⟩ := isRecorder ht
  rw [sizeRecorder] at h1
  refine acalls_of Try.func40 (by decide +kernel) (code := Try.f40.body.getD .skip) (n := 82) (c := c_laws_eqRecorder) (rs := [(.tmp 4)]) rfl rfl k_laws_eqRecorder (by kernel_rfl) (by simp) (fun hσ => ?_)
  simp -implicitDefEqProofs only [c_laws_eqRecorder, ne_self, beq_self_eq_true, S0, S1, S2, S3, S4, S5, S6, S7, S8, S9, S10, S11, S12, S13, S14, S15, opv, opvs, eget, env0, setD, lenStr, lenSl, isNilP, isNilS, putAt, if_true, if_false, reduceCtorEq, Nat.reduceLeDiff, Nat.reduceEqDiff, Nat.reduceSub, Nat.reduceMul, Nat.reduceAdd]
  refine call_pure (eqRecDisk_x  _ b3 b4 b5 (by omega)) ?_
  simp -implicitDefEqProofs only [ne_self, beq_self_eq_true, S0, S1, S2, S3, S4, S5, S6, S7, S8, S9, S10, S11, S12, S13, S14, S15, opv, opvs, eget, env0, setD, lenStr, lenSl, isNilP, isNilS, putAt, if_true, if_false, reduceCtorEq, Nat.reduceLeDiff, Nat.reduceEqDiff, Nat.reduceSub, Nat.reduceMul, Nat.reduceAdd]
  refine call_pure (eqRecDisk_x  _ b6 b7 b8 (by omega)) ?_
  simp -implicitDefEqProofs only [ne_self, beq_self_eq_true, S0, S1, S2, S3, S4, S5, S6, S7, S8, S9, S10, S11, S12, S13, S14, S15, opv, opvs, eget, env0, setD, lenStr, lenSl, isNilP, isNilS, putAt, if_true, if_false, reduceCtorEq, Nat.reduceLeDiff, Nat.reduceEqDiff, Nat.reduceSub, Nat.reduceMul, Nat.reduceAdd]
  refine call_pure (eqRecMessageS n9 _ b9 (by omega)) ?_
  simp -implicitDefEqProofs only [ne_self, beq_self_eq_true, S0, S1, S2, S3, S4, S5, S6, S7, S8, S9, S10, S11, S12, S13, S14, S15, opv, opvs, eget, env0, setD, lenStr, lenSl, isNilP, isNilS, putAt, if_true, if_false, reduceCtorEq, Nat.reduceLeDiff, Nat.reduceEqDiff, Nat.reduceSub, Nat.reduceMul, Nat.reduceAdd]
  refine call_pure (eqStringS n10 _ b10 (by omega)) ?_
  simp -implicitDefEqProofs only [ne_self, beq_self_eq_true, S0, S1, S2, S3, S4, S5, S6, S7, S8, S9, S10, S11, S12, S13, S14, S15, opv, opvs, eget, env0, setD, lenStr, lenSl, isNilP, isNilS, putAt, if_true, if_false, reduceCtorEq, Nat.reduceLeDiff, Nat.reduceEqDiff, Nat.reduceSub, Nat.reduceMul, Nat.reduceAdd]
  refine call_pure (eqIntS n14 _ b14 (by omega)) ?_
  simp -implicitDefEqProofs only [ne_self, beq_self_eq_true, S0, S1, S2, S3, S4, S5, S6, S7, S8, S9, S10, S11, S12, S13, S14, S15, opv, opvs, eget, env0, setD, lenStr, lenSl, isNilP, isNilS, putAt, if_true, if_false, reduceCtorEq, Nat.reduceLeDiff, Nat.reduceEqDiff, Nat.reduceSub, Nat.reduceMul, Nat.reduceAdd]
  refine call_pure (eqRecSlotS n15 _ b15 (by omega)) ?_
  simp -implicitDefEqProofs only [ne_self, beq_self_eq_true, S0, S1, S2, S3, S4, S5, S6, S7, S8, S9, S10, S11, S12, S13, S14, S15, opv, opvs, eget, env0, setD, lenStr, lenSl, isNilP, isNilS, putAt, if_true, if_false, reduceCtorEq, Nat.reduceLeDiff, Nat.reduceEqDiff, Nat.reduceSub, Nat.reduceMul, Nat.reduceAdd]
  refine call_pure (eqRecAckS n16 _ b16 (by omega)) ?_
  simp -implicitDefEqProofs only [ne_self, beq_self_eq_true, S0, S1, S2, S3, S4, S5, S6, S7, S8, S9, S10, S11, S12, S13, S14, S15, opv, opvs, eget, env0, setD, lenStr, lenSl, isNilP, isNilS, putAt, if_true, if_false, reduceCtorEq, Nat.reduceLeDiff, Nat.reduceEqDiff, Nat.reduceSub, Nat.reduceMul, Nat.reduceAdd]
  exact ret_same rfl hσ rfl ⟨rfl, rfl⟩
theorem eqRecorder_x {n0} {n1} {n2} {n3} {n4} {n5} {n6} {n7} {n8} {n9} {n10} {n11} {n12} {n13} {n14} {n15} {n16} {n17} (σ : Store) (b0 : (Lit.int .i64 n0).wf = true) (b1 : (Lit.int .i64 n1).wf = true) (b3 : (Lit.int .i64 n3).wf = true) (b4 : (Lit.int .i64 n4).wf = true) (b5 : T.is (.sl 2 shRecSlot) n5) (b6 : (Lit.int .i64 n6).wf = true) (b7 : (Lit.int .i64 n7).wf = true) (b8 : T.is (.sl 2 shRecSlot) n8) (b9 : T.is (.sl 8 shRecMessage) n9) (b10 : T.is (.sl 1 [.str]) n10) (b13 : (Lit.int .i64 n13).wf = true) (b14 : T.is (.sl 1 [.int .i64]) n14) (b15 : T.is (.sl 2 shRecSlot) n15) (b16 : T.is (.sl 2 shRecAck) n16) (b17 : (Lit.int .i64 n17).wf = true) (hz : n5.size + n8.size + n9.size + n10.size + n14.size + n15.size + n16.size ≤ 1099511627776) : ACalls Try.prog 40 [.agg [.t (.int .i64 n0), .t (.int .i64 n1), .t (.bool n2), .t (.int .i64 n3), .t (.int .i64 n4), .t n5, .t (.int .i64 n6), .t (.int .i64 n7), .t n8, .t n9, .t n10, .t (.bool n11), .t (.bool n12), .t (.int .i64 n13), .t n14, .t n15, .t n16, .t (.int .i64 n17)], .agg [.t (.int .i64 n0), .t (.int .i64 n1), .t (.bool n2), .t (.int .i64 n3), .t (.int .i64 n4), .t n5, .t (.int .i64 n6), .t (.int .i64 n7), .t n8, .t n9, .t n10, .t (.bool n11), .t (.bool n12), .t (.int .i64 n13), .t n14, .t n15, .t n16, .t (.int .i64 n17)]] σ (TrueR σ) := by
  have h := eqRecorder [(.int .i64 n0), (.int .i64 n1), (.bool n2), (.int .i64 n3), (.int .i64 n4), n5, (.int .i64 n6), (.int .i64 n7), n8, n9, n10, (.bool n11), (.bool n12), (.int .i64 n13), n14, n15, n16, (.int .i64 n17)] σ (mkRecorder b0 b1 b3 b4 b5 b6 b7 b8 b9 b10 b13 b14 b15 b16 b17) (by rw [sizeRecorder]; omega)
  exact h
def c_laws_toRecorder : C := (.seq (.ops [⟨(some 1), none, (.box (.t 0))⟩, ⟨(some 2), none, (.new [(.t (.int .i64 0)), (.t (.int .i64 0)), (.t (.bool false)), (.t (.int .i64 0)), (.t (.int .i64 0)), .nils, (.t (.int .i64 0)), (.t (.int .i64 0)), .nils, .nils, .nils, (.t (.bool false)), (.t (.bool false)), (.t (.int .i64 0)), .nils, .nils, .nils, (.t (.int .i64 0))])⟩]) (.seq (.ops [⟨(some 3), none, (.new [(.t (.int .i64 0)), (.t (.int .i64 0)), (.t (.bool false)), (.t (.int .i64 0)), (.t (.int .i64 0)), .nils, (.t (.int .i64 0)), (.t (.int .i64 0)), .nils, .nils, .nils, (.t (.bool false)), (.t (.bool false)), (.t (.int .i64 0)), .nils, .nils, .nils, (.t (.int .i64 0))])⟩]) (.seq (.ops [⟨(some 4), none, (.fieldAddr 0 (.t 1))⟩, ⟨(some 5), none, (.load none (.t 4))⟩, ⟨(some 6), none, (.fieldAddr 0 (.t 3))⟩, ⟨none, none, (.store 1 (.t 6) (.t 5))⟩]) (.seq (.ops [⟨(some 7), none, (.fieldAddr 1 (.t 1))⟩, ⟨(some 8), none, (.load none (.t 7))⟩, ⟨(some 9), none, (.fieldAddr 1 (.t 3))⟩, ⟨none, none, (.store 1 (.t 9) (.t 8))⟩]) (.seq (.ops [⟨(some 10), none, (.fieldAddr 2 (.t 1))⟩, ⟨(some 11), none, (.load none (.t 10))⟩, ⟨(some 12), none, (.fieldAddr 2 (.t 3))⟩, ⟨none, none, (.store 1 (.t 12) (.t 11))⟩]) (.seq (.ops [⟨(some 13), none, (.fieldAddr 3 (.t 1))⟩, ⟨(some 14), none, (.load (some 3) (.t 13))⟩, ⟨(some 15), none, (.call (.c (.fn (.func 30) [])) [(.t 14)])⟩, ⟨(some 16), none, (.fieldAddr 3 (.t 3))⟩, ⟨none, none, (.store 3 (.t 16) (.t 15))⟩]) (.seq (.ops [⟨(some 17), none, (.fieldAddr 6 (.t 1))⟩, ⟨(some 18), none, (.load (some 3) (.t 17))⟩, ⟨(some 19), none, (.call (.c (.fn (.func 30) [])) [(.t 18)])⟩, ⟨(some 20), none, (.fieldAddr 6 (.t 3))⟩, ⟨none, none, (.store 3 (.t 20) (.t 19))⟩]) (.seq (.ops [⟨(some 21), none, (.fieldAddr 9 (.t 1))⟩, ⟨(some 22), none, (.load none (.t 21))⟩, ⟨(some 23), none, (.call (.c (.fn (.func 107) [])) [(.t 22)])⟩, ⟨(some 24), none, (.fieldAddr 9 (.t 3))⟩, ⟨none, none, (.store 1 (.t 24) (.t 23))⟩]) (.seq (.ops [⟨(some 25), none, (.fieldAddr 10 (.t 1))⟩, ⟨(some 26), none, (.load none (.t 25))⟩, ⟨(some 27), none, (.call (.c (.fn (.func 108) [])) [(.t 26)])⟩, ⟨(some 28), none, (.fieldAddr 10 (.t 3))⟩, ⟨none, none, (.store 1 (.t 28) (.t 27))⟩]) (.seq (.ops [⟨(some 29), none, (.fieldAddr 11 (.t 1))⟩, ⟨(some 30), none, (.load none (.t 29))⟩, ⟨(some 31), none, (.fieldAddr 11 (.t 3))⟩, ⟨none, none, (.store 1 (.t 31) (.t 30))⟩]) (.seq (.ops [⟨(some 32), none, (.fieldAddr 12 (.t 1))⟩, ⟨(some 33), none, (.load none (.t 32))⟩, ⟨(some 34), none, (.fieldAddr 12 (.t 3))⟩, ⟨none, none, (.store 1 (.t 34) (.t 33))⟩]) (.seq (.ops [⟨(some 35), none, (.fieldAddr 13 (.t 1))⟩, ⟨(some 36), none, (.load none (.t 35))⟩, ⟨(some 37), none, (.fieldAddr 13 (.t 3))⟩, ⟨none, none, (.store 1 (.t 37) (.t 36))⟩]) (.seq (.ops [⟨(some 38), none, (.fieldAddr 14 (.t 1))⟩, ⟨(some 39), none, (.load none (.t 38))⟩, ⟨(some 40), none, (.call (.c (.fn (.func 109) [])) [(.t 39)])⟩, ⟨(some 41), none, (.fieldAddr 14 (.t 3))⟩, ⟨none, none, (.store 1 (.t 41) (.t 40))⟩]) (.seq (.ops [⟨(some 42), none, (.fieldAddr 15 (.t 1))⟩, ⟨(some 43), none, (.load none (.t 42))⟩, ⟨(some 44), none, (.call (.c (.fn (.func 23) [])) [(.t 43)])⟩, ⟨(some 45), none, (.fieldAddr 15 (.t 3))⟩, ⟨none, none, (.store 1 (.t 45) (.t 44))⟩]) (.seq (.ops [⟨(some 46), none, (.fieldAddr 16 (.t 1))⟩, ⟨(some 47), none, (.load none (.t 46))⟩, ⟨(some 48), none, (.call (.c (.fn (.func 110) [])) [(.t 47)])⟩, ⟨(some 49), none, (.fieldAddr 16 (.t 3))⟩, ⟨none, none, (.store 1 (.t 49) (.t 48))⟩]) (.seq (.ops [⟨(some 50), none, (.fieldAddr 17 (.t 1))⟩, ⟨(some 51), none, (.load none (.t 50))⟩, ⟨(some 52), none, (.fieldAddr 17 (.t 3))⟩, ⟨none, none, (.store 1 (.t 52) (.t 51))⟩]) (.seq (.ops [⟨(some 53), none, (.load (some 18) (.t 3))⟩, ⟨none, none, (.store 18 (.t 2) (.t 53))⟩]) .ret)))))))))))))))))
theorem k_laws_toRecorder : comp Try.prog 54 (Try.f45.body.getD .skip) = some c_laws_toRecorder := by kernel_rfl

theorem toRecorder : ToLOk Try.prog 45 shRecorder := by
  rintro ts σ ht h1
  obtain ⟨n0, n1, n2, n3, n4, n5, n6, n7, n8, n9, n10, n11, n12, n13, n14, n15, n16, n17, rfl, b0, b1, b3, b4, b5, b6, b7, b8, b9, b10, b13, b14, b15, b16, b17⟩ := isRecorder ht
  rw [sizeRecorder] at h1
  refine acalls_of Try.func45 (by decide +kernel) (code := Try.f45.body.getD .skip) (n := 54) (c := c_laws_toRecorder) (rs := [(.cell 2 (some 18))]) rfl rfl k_laws_toRecorder (by kernel_rfl) (by simp) (fun hσ => ?_)
  simp -implicitDefEqProofs only [c_laws_toRecorder, S0, S1, S2, S3, S4, S5, S6, S7, S8, S9, S10, S11, S12, S13, S14, S15, opv, opvs, eget, env0, setD, lenStr, lenSl, isNilP, isNilS, putAt, if_true, if_false, reduceCtorEq, Nat.reduceLeDiff, Nat.reduceEqDiff, Nat.reduceSub, Nat.reduceMul, Nat.reduceAdd]
  refine call_by (by rw [List.append_nil]; exact toRecDisk_x  _ b3 b4 b5 (by omega)) ?_
  rintro r σ' ⟨us, τ3, j3, rfl, rfl, o3, w3⟩
  obtain ⟨u3x0, u3x1, u3x2, rfl⟩ : ∃ u3x0 u3x1 u3x2, us = [u3x0, u3x1, u3x2] := list3x (by have := o3.len; simpa using this)
  have e3 := o3.ones
  simp only [List.all_cons, List.all_nil, Bool.and_eq_true, and_true] at e3
  obtain ⟨e3x0, e3x1, e3x2⟩ := e3
  simp -implicitDefEqProofs only [e3x0, e3x1, e3x2, S0, S1, S2, S3, S4, S5, S6, S7, S8, S9, S10, S11, S12, S13, S14, S15, opv, opvs, eget, env0, setD, lenStr, lenSl, isNilP, isNilS, putAt, if_true, if_false, reduceCtorEq, Nat.reduceLeDiff, Nat.reduceEqDiff, Nat.reduceSub, Nat.reduceMul, Nat.reduceAdd]
  refine call_by (by rw [List.append_nil]; exact toRecDisk_x  _ b6 b7 b8 (by omega)) ?_
  rintro r σ' ⟨us, τ6, j6, rfl, rfl, o6, w6⟩
  obtain ⟨u6x0, u6x1, u6x2, rfl⟩ : ∃ u6x0 u6x1 u6x2, us = [u6x0, u6x1, u6x2] := list3x (by have := o6.len; simpa using this)
  have e6 := o6.ones
  simp only [List.all_cons, List.all_nil, Bool.and_eq_true, and_true] at e6
  obtain ⟨e6x0, e6x1, e6x2⟩ := e6
  simp -implicitDefEqProofs only [e3x0, e3x1, e3x2, e6x0, e6x1, e6x2, S0, S1, S2, S3, S4, S5, S6, S7, S8, S9, S10, S11, S12, S13, S14, S15, opv, opvs, eget, env0, setD, lenStr, lenSl, isNilP, isNilS, putAt, if_true, if_false, reduceCtorEq, Nat.reduceLeDiff, Nat.reduceEqDiff, Nat.reduceSub, Nat.reduceMul, Nat.reduceAdd]
  refine call_by (by rw [List.append_nil]; exact toRecMessageS n9 _ b9 (by omega)) ?_
  rintro u9 σ' ⟨τ9, j9, rfl, o9, w9⟩
  have e9 := o9.one
  simp -implicitDefEqProofs only [one_cells e9, e3x0, e3x1, e3x2, e6x0, e6x1, e6x2, e9, S0, S1, S2, S3, S4, S5, S6, S7, S8, S9, S10, S11, S12, S13, S14, S15, opv, opvs, eget, env0, setD, lenStr, lenSl, isNilP, isNilS, putAt, if_true, if_false, reduceCtorEq, Nat.reduceLeDiff, Nat.reduceEqDiff, Nat.reduceSub, Nat.reduceMul, Nat.reduceAdd]
  refine call_by (by rw [List.append_nil]; exact toStringS n10 _ b10 (by omega)) ?_
  rintro u10 σ' ⟨τ10, j10, rfl, o10, w10⟩
  have e10 := o10.one
  simp -implicitDefEqProofs only [one_cells e10, e3x0, e3x1, e3x2, e6x0, e6x1, e6x2, e9, e10, S0, S1, S2, S3, S4, S5, S6, S7, S8, S9, S10, S11, S12, S13, S14, S15, opv, opvs, eget, env0, setD, lenStr, lenSl, isNilP, isNilS, putAt, if_true, if_false, reduceCtorEq, Nat.reduceLeDiff, Nat.reduceEqDiff, Nat.reduceSub, Nat.reduceMul, Nat.reduceAdd]
  refine call_by (by rw [List.append_nil]; exact toIntS n14 _ b14 (by omega)) ?_
  rintro u14 σ' ⟨τ14, j14, rfl, o14, w14⟩
  have e14 := o14.one
  simp -implicitDefEqProofs only [one_cells e14, e3x0, e3x1, e3x2, e6x0, e6x1, e6x2, e9, e10, e14, S0, S1, S2, S3, S4, S5, S6, S7, S8, S9, S10, S11, S12, S13, S14, S15, opv, opvs, eget, env0, setD, lenStr, lenSl, isNilP, isNilS, putAt, if_true, if_false, reduceCtorEq, Nat.reduceLeDiff, Nat.reduceEqDiff, Nat.reduceSub, Nat.reduceMul, Nat.reduceAdd]
  refine call_by (by rw [List.append_nil]; exact toRecSlotS n15 _ b15 (by omega)) ?_
  rintro u15 σ' ⟨τ15, j15, rfl, o15, w15⟩
  have e15 := o15.one
  simp -implicitDefEqProofs only [one_cells e15, e3x0, e3x1, e3x2, e6x0, e6x1, e6x2, e9, e10, e14, e15, S0, S1, S2, S3, S4, S5, S6, S7, S8, S9, S10, S11, S12, S13, S14, S15, opv, opvs, eget, env0, setD, lenStr, lenSl, isNilP, isNilS, putAt, if_true, if_false, reduceCtorEq, Nat.reduceLeDiff, Nat.reduceEqDiff, Nat.reduceSub, Nat.reduceMul, Nat.reduceAdd]
  refine call_by (by rw [List.append_nil]; exact toRecAckS n16 _ b16 (by omega)) ?_
  rintro u16 σ' ⟨τ16, j16, rfl, o16, w16⟩
  have e16 := o16.one
  simp -implicitDefEqProofs only [one_cells e16, e3x0, e3x1, e3x2, e6x0, e6x1, e6x2, e9, e10, e14, e15, e16, S0, S1, S2, S3, S4, S5, S6, S7, S8, S9, S10, S11, S12, S13, S14, S15, opv, opvs, eget, env0, setD, lenStr, lenSl, isNilP, isNilS, putAt, if_true, if_false, reduceCtorEq, Nat.reduceLeDiff, Nat.reduceEqDiff, Nat.reduceSub, Nat.reduceMul, Nat.reduceAdd]
  refine fin_keep (by simp) ⟨_, _, (j3 ++ (j6 ++ (j9 ++ (j10 ++ (j14 ++ (j15 ++ (j16 ++ []))))))), rfl, rfl, (OwnL.int (OwnL.int (OwnL.bool (own_app3 (ownL_pre (A := [_, _, _]) (A' := [_, _, _]) (B := τ3) (B' := (τ3 ++ (τ6 ++ (τ9 ++ (τ10 ++ (τ14 ++ (τ15 ++ τ16))))))) o3 w3 (List.append_assoc ..) rfl rfl (by simp) (by simp)) (own_app3 (ownL_pre (A := [_, _, _]) (A' := [_, _, _]) (B := (τ3 ++ τ6)) (B' := (τ3 ++ (τ6 ++ (τ9 ++ (τ10 ++ (τ14 ++ (τ15 ++ τ16))))))) o6 w6 (List.append_assoc ..) rfl rfl (by simp) (by simp)) (OwnL.lst (own_pre (A := [_, _, _]) (A' := [_, _, _]) (B := ((τ3 ++ τ6) ++ τ9)) (B' := (τ3 ++ (τ6 ++ (τ9 ++ (τ10 ++ (τ14 ++ (τ15 ++ τ16))))))) o9 w9 (List.append_assoc ..) rfl rfl (by simp) (by simp)) (OwnL.lst (own_pre (A := [_, _, _]) (A' := [_, _, _]) (B := ((τ3 ++ (τ6 ++ τ9)) ++ τ10)) (B' := (τ3 ++ (τ6 ++ (τ9 ++ (τ10 ++ (τ14 ++ (τ15 ++ τ16))))))) o10 w10 (List.append_assoc ..) rfl rfl (by simp) (by simp)) (OwnL.bool (OwnL.bool (OwnL.int (OwnL.lst (own_pre (A := [_, _, _]) (A' := [_, _, _]) (B := ((τ3 ++ (τ6 ++ (τ9 ++ τ10))) ++ τ14)) (B' := (τ3 ++ (τ6 ++ (τ9 ++ (τ10 ++ (τ14 ++ (τ15 ++ τ16))))))) o14 w14 (List.append_assoc ..) rfl rfl (by simp) (by simp)) (OwnL.lst (own_pre (A := [_, _, _]) (A' := [_, _, _]) (B := ((τ3 ++ (τ6 ++ (τ9 ++ (τ10 ++ τ14)))) ++ τ15)) (B' := (τ3 ++ (τ6 ++ (τ9 ++ (τ10 ++ (τ14 ++ (τ15 ++ τ16))))))) o15 w15 (List.append_assoc ..) rfl rfl (by simp) (by simp)) (OwnL.lst (own_pre (A := [_, _, _]) (A' := [_, _, _]) (B := ((τ3 ++ (τ6 ++ (τ9 ++ (τ10 ++ (τ14 ++ τ15))))) ++ τ16)) (B' := (τ3 ++ (τ6 ++ (τ9 ++ (τ10 ++ (τ14 ++ (τ15 ++ τ16))))))) o16 w16 (List.append_assoc ..) rfl rfl (by simp) (by simp)) (OwnL.int OwnL.nil0)))))))))))))), ?_⟩
  simp only [List.length_append, List.length_cons, List.length_nil] at w3 w6 w9 w10 w14 w15 w16 ⊢
  refine Wi.mono (a := σ.length) ?_ (Nat.le_refl _) (Nat.le_refl _)
  exact wi_more w3 (wi_more w6 (wi_more w9 (wi_more w10 (wi_more w14 (wi_more w15 (wi_last w16 (by omega) (by omega)) (by omega) (by omega)) (by omega) (by omega)) (by omega) (by omega)) (by omega) (by omega)) (by omega) (by omega)) (by omega) (by omega)
theorem toRecorder_x {n0} {n1} {n2} {n3} {n4} {n5} {n6} {n7} {n8} {n9} {n10} {n11} {n12} {n13} {n14} {n15} {n16} {n17} (σ : Store) (b0 : (Lit.int .i64 n0).wf = true) (b1 : (Lit.int .i64 n1).wf = true) (b3 : (Lit.int .i64 n3).wf = true) (b4 : (Lit.int .i64 n4).wf = true) (b5 : T.is (.sl 2 shRecSlot) n5) (b6 : (Lit.int .i64 n6).wf = true) (b7 : (Lit.int .i64 n7).wf = true) (b8 : T.is (.sl 2 shRecSlot) n8) (b9 : T.is (.sl 8 shRecMessage) n9) (b10 : T.is (.sl 1 [.str]) n10) (b13 : (Lit.int .i64 n13).wf = true) (b14 : T.is (.sl 1 [.int .i64]) n14) (b15 : T.is (.sl 2 shRecSlot) n15) (b16 : T.is (.sl 2 shRecAck) n16) (b17 : (Lit.int .i64 n17).wf = true) (hz : n5.size + n8.size + n9.size + n10.size + n14.size + n15.size + n16.size ≤ 1048576) : ACalls Try.prog 45 [.agg [.t (.int .i64 n0), .t (.int .i64 n1), .t (.bool n2), .t (.int .i64 n3), .t (.int .i64 n4), .t n5, .t (.int .i64 n6), .t (.int .i64 n7), .t n8, .t n9, .t n10, .t (.bool n11), .t (.bool n12), .t (.int .i64 n13), .t n14, .t n15, .t n16, .t (.int .i64 n17)]] σ (ToLR [(.int .i64 n0), (.int .i64 n1), (.bool n2), (.int .i64 n3), (.int .i64 n4), n5, (.int .i64 n6), (.int .i64 n7), n8, n9, n10, (.bool n11), (.bool n12), (.int .i64 n13), n14, n15, n16, (.int .i64 n17)] σ) := by
  have h := toRecorder [(.int .i64 n0), (.int .i64 n1), (.bool n2), (.int .i64 n3), (.int .i64 n4), n5, (.int .i64 n6), (.int .i64 n7), n8, n9, n10, (.bool n11), (.bool n12), (.int .i64 n13), n14, n15, n16, (.int .i64 n17)] σ (mkRecorder b0 b1 b3 b4 b5 b6 b7 b8 b9 b10 b13 b14 b15 b16 b17) (by rw [sizeRecorder]; omega)
  exact h
theorem i_szRecorderS : Is Try.prog 120 27 [(.tmp 4)] (tSzS 18 43) := ⟨_, _, Try.func120, by decide +kernel, rfl, rfl, by kernel_rfl, rfl⟩
theorem szRecorderS : SzOk Try.prog 120 (.sl 18 shRecorder) := szS_ok rfl i_szRecorderS szRecorder
theorem i_eqRecorderS : Is Try.prog 113 27 [(.tmp 4)] (tEqS 18 40) := ⟨_, _, Try.func113, by decide +kernel, rfl, rfl, by kernel_rfl, rfl⟩
theorem eqRecorderS : EqOk Try.prog 113 (.sl 18 shRecorder) := eqS_ok rfl i_eqRecorderS eqRecorder
theorem i_toRecorderS : Is Try.prog 122 23 [(.tmp 2)] (tToS 18 248 45 [.t (.int .i64 0), .t (.int .i64 0), .t (.bool false), .t (.int .i64 0), .t (.int .i64 0), .nils, .t (.int .i64 0), .t (.int .i64 0), .nils, .nils, .nils, .t (.bool false), .t (.bool false), .t (.int .i64 0), .nils, .nils, .nils, .t (.int .i64 0)]) := ⟨_, _, Try.func122, by decide +kernel, rfl, rfl, by kernel_rfl, rfl⟩
theorem toRecorderS : ToOk Try.prog 122 (.sl 18 shRecorder) := toS_ok 248 [.t (.int .i64 0), .t (.int .i64 0), .t (.bool false), .t (.int .i64 0), .t (.int .i64 0), .nils, .t (.int .i64 0), .t (.int .i64 0), .nils, .nils, .nils, .t (.bool false), .t (.bool false), .t (.int .i64 0), .nils, .nils, .nils, .t (.int .i64 0)] rfl (by decide) rfl (by decide) i_toRecorderS toRecorder
def shRecWorld : List Sh := [.sl 18 shRecorder, .sl 8 shRecMessage, .sl 2 shRecFix]
theorem isRecWorld {ts : List T} (ht : T.isL shRecWorld ts) : ∃ n0 n1 n2, ts = [n0, n1, n2] ∧ T.is (.sl 18 shRecorder) n0 ∧ T.is (.sl 8 shRecMessage) n1 ∧ T.is (.sl 2 shRecFix) n2 := by
  simp only [shRecWorld, isL_cons, isL_nil, is_int, is_bool, is_str] at ht
  obtain ⟨n0, _, rfl, b0, n1, _, rfl, b1, n2, _, rfl, b2, rfl⟩ := ht
  exact ⟨_, _, _, rfl, b0, b1, b2⟩
theorem mkRecWorld {n0} {n1} {n2} (b0 : T.is (.sl 18 shRecorder) n0) (b1 : T.is (.sl 8 shRecMessage) n1) (b2 : T.is (.sl 2 shRecFix) n2) : T.isL shRecWorld [n0, n1, n2] := by
  simp only [shRecWorld, isL_cons, isL_nil, is_int, is_bool, is_str]
  exact ⟨_, _, rfl, b0, _, _, rfl, b1, _, _, rfl, b2, rfl⟩
theorem sizeRecWorld {n0} {n1} {n2} : T.sizeL [n0, n1, n2] = n0.size + n1.size + n2.size := by
  simp only [sizeL_cons, sizeL_nil, size_int, size_bool, size_str]
  try omega
def c_laws_szRecWorld : C := (.seq (.ops [⟨(some 2), none, (.box (.t 0))⟩, ⟨(some 4), none, (.mv (.c (.t (.int .i64 0))))⟩]) (.seq (.ops [⟨(some 5), none, (.fieldAddr 0 (.t 2))⟩, ⟨(some 6), none, (.load none (.t 5))⟩, ⟨(some 7), none, (.mv (.t 1))⟩, ⟨(some 8), none, (.call (.c (.fn (.func 120) [])) [(.t 6), (.t 7)])⟩, ⟨(some 1), none, (.mv (.t 8))⟩]) (.seq (.seq (.ops [⟨(some 9), none, (.mv (.t 1))⟩, ⟨(some 10), none, (.bin .lss (.t 9) (.c (.t (.int .i64 0))))⟩]) (.cond (.t 10) (.seq (.ops [⟨(some 4), none, (.mv (.c (.t (.int .i64 (-1)))))⟩]) .ret) .skip)) (.seq (.ops [⟨(some 11), none, (.fieldAddr 1 (.t 2))⟩, ⟨(some 12), none, (.load none (.t 11))⟩, ⟨(some 13), none, (.mv (.t 1))⟩, ⟨(some 14), none, (.call (.c (.fn (.func 99) [])) [(.t 12), (.t 13)])⟩, ⟨(some 1), none, (.mv (.t 14))⟩]) (.seq (.seq (.ops [⟨(some 15), none, (.mv (.t 1))⟩, ⟨(some 16), none, (.bin .lss (.t 15) (.c (.t (.int .i64 0))))⟩]) (.cond (.t 16) (.seq (.ops [⟨(some 4), none, (.mv (.c (.t (.int .i64 (-1)))))⟩]) .ret) .skip)) (.seq (.ops [⟨(some 17), none, (.fieldAddr 2 (.t 2))⟩, ⟨(some 18), none, (.load none (.t 17))⟩, ⟨(some 19), none, (.mv (.t 1))⟩, ⟨(some 20), none, (.call (.c (.fn (.func 121) [])) [(.t 18), (.t 19)])⟩, ⟨(some 1), none, (.mv (.t 20))⟩]) (.seq (.seq (.ops [⟨(some 21), none, (.mv (.t 1))⟩, ⟨(some 22), none, (.bin .lss (.t 21) (.c (.t (.int .i64 0))))⟩]) (.cond (.t 22) (.seq (.ops [⟨(some 4), none, (.mv (.c (.t (.int .i64 (-1)))))⟩]) .ret) .skip)) (.seq (.ops [⟨(some 23), none, (.mv (.t 1))⟩, ⟨(some 4), none, (.mv (.t 23))⟩]) .ret))))))))
theorem k_laws_szRecWorld : comp Try.prog 24 (Try.f57.body.getD .skip) = some c_laws_szRecWorld := by kernel_rfl

theorem szRecWorld : SzLOk Try.prog 57 shRecWorld := by
  rintro ts left σ ht h0 h1
  obtain ⟨n0, n1, n2, rfl, b0, b1, b2⟩ := isRecWorld ht
  refine acalls_of Try.func57 (by decide +kernel) (code := Try.f57.body.getD .skip) (n := 24) (c := c_laws_szRecWorld) (rs := [(.tmp 4)]) rfl rfl k_laws_szRecWorld (by kernel_rfl) (by simp) (fun hσ => ?_)
  try simp only [maxLen] at *
  have fin : ∀ {n : Int} {τ : Store}, n ≤ left → (0 ≤ n → ((n0.size + n1.size + n2.size : Nat) : Int) + n ≤ left) → retV σ.length (SzR (T.sizeL [n0, n1, n2]) left σ) (σ ++ τ) (some [.t (.int .i64 n)]) := fun h h' => ret_same rfl hσ rfl ⟨⟨_, rfl, h, fun h0 => by have := h' h0; rw [sizeRecWorld]; exact this⟩, rfl⟩
  simp -implicitDefEqProofs only [c_laws_szRecWorld, S0, S1, S2, S3, S4, S5, S6, S7, S8, S9, S10, S11, S12, S13, S14, S15, opv, opvs, eget, env0, setD, lenStr, lenSl, isNilP, isNilS, putAt, if_true, if_false, reduceCtorEq, Nat.reduceLeDiff, Nat.reduceEqDiff, Nat.reduceSub, Nat.reduceMul, Nat.reduceAdd]
  refine call_by (by rw [List.append_nil]; exact szRecorderS n0 left _ b0 (by omega) (by omega)) ?_
  rintro r σ' ⟨⟨m0, rfl, hm0, hs0⟩, rfl⟩
  try simp only [sizeRecWorld] at hs0
  simp -implicitDefEqProofs only [S0, S1, S2, S3, S4, S5, S6, S7, S8, S9, S10, S11, S12, S13, S14, S15, opv, opvs, eget, env0, setD, lenStr, lenSl, isNilP, isNilS, putAt, if_true, if_false, reduceCtorEq, Nat.reduceLeDiff, Nat.reduceEqDiff, Nat.reduceSub, Nat.reduceMul, Nat.reduceAdd]
  refine cond_split (fun h => ?_) (fun h => ?_)
  · simp -implicitDefEqProofs only [S0, S1, S2, S3, S4, S5, S6, S7, S8, S9, S10, S11, S12, S13, S14, S15, opv, opvs, eget, env0, setD, lenStr, lenSl, isNilP, isNilS, putAt, if_true, if_false, reduceCtorEq, Nat.reduceLeDiff, Nat.reduceEqDiff, Nat.reduceSub, Nat.reduceMul, Nat.reduceAdd]
    simp only [decide_eq_true_eq] at h
    exact fin (by omega) (by omega)
  simp only [decide_eq_false_iff_not, Int.not_lt] at h
  replace hs0 := hs0 h
  simp -implicitDefEqProofs only [S0, S1, S2, S3, S4, S5, S6, S7, S8, S9, S10, S11, S12, S13, S14, S15, opv, opvs, eget, env0, setD, lenStr, lenSl, isNilP, isNilS, putAt, if_true, if_false, reduceCtorEq, Nat.reduceLeDiff, Nat.reduceEqDiff, Nat.reduceSub, Nat.reduceMul, Nat.reduceAdd]
  refine call_by (by rw [List.append_nil]; exact szRecMessageS n1 m0 _ b1 (by omega) (by omega)) ?_
  rintro r σ' ⟨⟨m1, rfl, hm1, hs1⟩, rfl⟩
  try simp only [sizeRecWorld] at hs1
  simp -implicitDefEqProofs only [S0, S1, S2, S3, S4, S5, S6, S7, S8, S9, S10, S11, S12, S13, S14, S15, opv, opvs, eget, env0, setD, lenStr, lenSl, isNilP, isNilS, putAt, if_true, if_false, reduceCtorEq, Nat.reduceLeDiff, Nat.reduceEqDiff, Nat.reduceSub, Nat.reduceMul, Nat.reduceAdd]
  refine cond_split (fun h => ?_) (fun h => ?_)
  · simp -implicitDefEqProofs only [S0, S1, S2, S3, S4, S5, S6, S7, S8, S9, S10, S11, S12, S13, S14, S15, opv, opvs, eget, env0, setD, lenStr, lenSl, isNilP, isNilS, putAt, if_true, if_false, reduceCtorEq, Nat.reduceLeDiff, Nat.reduceEqDiff, Nat.reduceSub, Nat.reduceMul, Nat.reduceAdd]
    simp only [decide_eq_true_eq] at h
    exact fin (by omega) (by omega)
  simp only [decide_eq_false_iff_not, Int.not_lt] at h
  replace hs1 := hs1 h
  simp -implicitDefEqProofs only [S0, S1, S2, S3, S4, S5, S6, S7, S8, S9, S10, S11, S12, S13, S14, S15, opv, opvs, eget, env0, setD, lenStr, lenSl, isNilP, isNilS, putAt, if_true, if_false, reduceCtorEq, Nat.reduceLeDiff, Nat.reduceEqDiff, Nat.reduceSub, Nat.reduceMul, Nat.reduceAdd]
  refine call_by (by rw [List.append_nil]; exact szRecFixS n2 m1 _ b2 (by omega) (by omega)) ?_
  rintro r σ' ⟨⟨m2, rfl, hm2, hs2⟩, rfl⟩
  try simp only [sizeRecWorld] at hs2
  simp -implicitDefEqProofs only [S0, S1, S2, S3, S4, S5, S6, S7, S8, S9, S10, S11, S12, S13, S14, S15, opv, opvs, eget, env0, setD, lenStr, lenSl, isNilP, isNilS, putAt, if_true, if_false, reduceCtorEq, Nat.reduceLeDiff, Nat.reduceEqDiff, Nat.reduceSub, Nat.reduceMul, Nat.reduceAdd]
  refine cond_split (fun h => ?_) (fun h => ?_)
  · simp -implicitDefEqProofs only [S0, S1, S2, S3, S4, S5, S6, S7, S8, S9, S10, S11, S12, S13, S14, S15, opv, opvs, eget, env0, setD, lenStr, lenSl, isNilP, isNilS, putAt, if_true, if_false, reduceCtorEq, Nat.reduceLeDiff, Nat.reduceEqDiff, Nat.reduceSub, Nat.reduceMul, Nat.reduceAdd]
    simp only [decide_eq_true_eq] at h
    exact fin (by omega) (by omega)
  simp only [decide_eq_false_iff_not, Int.not_lt] at h
  replace hs2 := hs2 h
  simp -implicitDefEqProofs only [S0, S1, S2, S3, S4, S5, S6, S7, S8, S9, S10, S11, S12, S13, S14, S15, opv, opvs, eget, env0, setD, lenStr, lenSl, isNilP, isNilS, putAt, if_true, if_false, reduceCtorEq, Nat.reduceLeDiff, Nat.reduceEqDiff, Nat.reduceSub, Nat.reduceMul, Nat.reduceAdd]
  exact fin (by omega) (fun _ => by omega)
theorem szRecWorld_x {n0} {n1} {n2} (left : Int) (σ : Store) (b0 : T.is (.sl 18 shRecorder) n0) (b1 : T.is (.sl 8 shRecMessage) n1) (b2 : T.is (.sl 2 shRecFix) n2) (h0 : 0 ≤ left) (h1 : left ≤ 1048576) : ACalls Try.prog 57 [.agg [.t n0, .t n1, .t n2], .t (.int .i64 left)] σ (SzR (T.sizeL [n0, n1, n2]) left σ) := by
  have h := szRecWorld [n0, n1, n2] left σ (mkRecWorld b0 b1 b2) h0 h1
  exact h
def c_laws_eqRecWorld : C := (.seq (.ops [⟨(some 2), none, (.box (.t 0))⟩, ⟨(some 3), none, (.box (.t 1))⟩, ⟨(some 4), none, (.mv (.c (.t (.bool false))))⟩]) (.seq (.seq (.ops [⟨(some 5), none, (.fieldAddr 0 (.t 2))⟩, ⟨(some 6), none, (.load none (.t 5))⟩, ⟨(some 7), none, (.fieldAddr 0 (.t 3))⟩, ⟨(some 8), none, (.load none (.t 7))⟩, ⟨(some 9), none, (.call (.c (.fn (.func 113) [])) [(.t 6), (.t 8)])⟩, ⟨(some 10), none, (.un .not (.t 9))⟩]) (.cond (.t 10) (.seq (.ops [⟨(some 4), none, (.mv (.c (.t (.bool false))))⟩]) .ret) .skip)) (.seq (.seq (.ops [⟨(some 11), none, (.fieldAddr 1 (.t 2))⟩, ⟨(some 12), none, (.load none (.t 11))⟩, ⟨(some 13), none, (.fieldAddr 1 (.t 3))⟩, ⟨(some 14), none, (.load none (.t 13))⟩, ⟨(some 15), none, (.call (.c (.fn (.func 88) [])) [(.t 12), (.t 14)])⟩, ⟨(some 16), none, (.un .not (.t 15))⟩]) (.cond (.t 16) (.seq (.ops [⟨(some 4), none, (.mv (.c (.t (.bool false))))⟩]) .ret) .skip)) (.seq (.seq (.ops [⟨(some 17), none, (.fieldAddr 2 (.t 2))⟩, ⟨(some 18), none, (.load none (.t 17))⟩, ⟨(some 19), none, (.fieldAddr 2 (.t 3))⟩, ⟨(some 20), none, (.load none (.t 19))⟩, ⟨(some 21), none, (.call (.c (.fn (.func 114) [])) [(.t 18), (.t 20)])⟩, ⟨(some 22), none, (.un .not (.t 21))⟩]) (.cond (.t 22) (.seq (.ops [⟨(some 4), none, (.mv (.c (.t (.bool false))))⟩]) .ret) .skip)) (.seq (.ops [⟨(some 4), none, (.mv (.c (.t (.bool true))))⟩]) .ret)))))
theorem k_laws_eqRecWorld : comp Try.prog 23 (Try.f49.body.getD .skip) = some c_laws_eqRecWorld := by kernel_rfl

theorem eqRecWorld : EqLOk Try.prog 49 shRecWorld := by
  rintro ts σ ht h1
  obtain ⟨n0, n1, n2, rfl, b0, b1, b2⟩ := isRecWorld ht
  rw [sizeRecWorld] at h1
  refine acalls_of Try.func49 (by decide +kernel) (code := Try.f49.body.getD .skip) (n := 23) (c := c_laws_eqRecWorld) (rs := [(.tmp 4)]) rfl rfl k_laws_eqRecWorld (by kernel_rfl) (by simp) (fun hσ => ?_)
  simp -implicitDefEqProofs only [c_laws_eqRecWorld, ne_self, beq_self_eq_true, S0, S1, S2, S3, S4, S5, S6, S7, S8, S9, S10, S11, S12, S13, S14, S15, opv, opvs, eget, env0, setD, lenStr, lenSl, isNilP, isNilS, putAt, if_true, if_false, reduceCtorEq, Nat.reduceLeDiff, Nat.reduceEqDiff, Nat.reduceSub, Nat.reduceMul, Nat.reduceAdd]
  refine call_pure (eqRecorderS n0 _ b0 (by omega)) ?_
  simp -implicitDefEqProofs only [ne_self, beq_self_eq_true, S0, S1, S2, S3, S4, S5, S6, S7, S8, S9, S10, S11, S12, S13, S14, S15, opv, opvs, eget, env0, setD, lenStr, lenSl, isNilP, isNilS, putAt, if_true, if_false, reduceCtorEq, Nat.reduceLeDiff, Nat.reduceEqDiff, Nat.reduceSub, Nat.reduceMul, Nat.reduceAdd]
  refine call_pure (eqRecMessageS n1 _ b1 (by omega)) ?_
  simp -implicitDefEqProofs only [ne_self, beq_self_eq_true, S0, S1, S2, S3, S4, S5, S6, S7, S8, S9, S10, S11, S12, S13, S14, S15, opv, opvs, eget, env0, setD, lenStr, lenSl, isNilP, isNilS, putAt, if_true, if_false, reduceCtorEq, Nat.reduceLeDiff, Nat.reduceEqDiff, Nat.reduceSub, Nat.reduceMul, Nat.reduceAdd]
  refine call_pure (eqRecFixS n2 _ b2 (by omega)) ?_
  simp -implicitDefEqProofs only [ne_self, beq_self_eq_true, S0, S1, S2, S3, S4, S5, S6, S7, S8, S9, S10, S11, S12, S13, S14, S15, opv, opvs, eget, env0, setD, lenStr, lenSl, isNilP, isNilS, putAt, if_true, if_false, reduceCtorEq, Nat.reduceLeDiff, Nat.reduceEqDiff, Nat.reduceSub, Nat.reduceMul, Nat.reduceAdd]
  exact ret_same rfl hσ rfl ⟨rfl, rfl⟩
theorem eqRecWorld_x {n0} {n1} {n2} (σ : Store) (b0 : T.is (.sl 18 shRecorder) n0) (b1 : T.is (.sl 8 shRecMessage) n1) (b2 : T.is (.sl 2 shRecFix) n2) (hz : n0.size + n1.size + n2.size ≤ 1099511627776) : ACalls Try.prog 49 [.agg [.t n0, .t n1, .t n2], .agg [.t n0, .t n1, .t n2]] σ (TrueR σ) := by
  have h := eqRecWorld [n0, n1, n2] σ (mkRecWorld b0 b1 b2) (by rw [sizeRecWorld]; omega)
  exact h
def c_laws_toRecWorld : C := (.seq (.ops [⟨(some 1), none, (.box (.t 0))⟩, ⟨(some 2), none, (.new [.nils, .nils, .nils])⟩]) (.seq (.ops [⟨(some 3), none, (.new [.nils, .nils, .nils])⟩]) (.seq (.ops [⟨(some 4), none, (.fieldAddr 0 (.t 1))⟩, ⟨(some 5), none, (.load none (.t 4))⟩, ⟨(some 6), none, (.call (.c (.fn (.func 122) [])) [(.t 5)])⟩, ⟨(some 7), none, (.fieldAddr 0 (.t 3))⟩, ⟨none, none, (.store 1 (.t 7) (.t 6))⟩]) (.seq (.ops [⟨(some 8), none, (.fieldAddr 1 (.t 1))⟩, ⟨(some 9), none, (.load none (.t 8))⟩, ⟨(some 10), none, (.call (.c (.fn (.func 107) [])) [(.t 9)])⟩, ⟨(some 11), none, (.fieldAddr 1 (.t 3))⟩, ⟨none, none, (.store 1 (.t 11) (.t 10))⟩]) (.seq (.ops [⟨(some 12), none, (.fieldAddr 2 (.t 1))⟩, ⟨(some 13), none, (.load none (.t 12))⟩, ⟨(some 14), none, (.call (.c (.fn (.func 123) [])) [(.t 13)])⟩, ⟨(some 15), none, (.fieldAddr 2 (.t 3))⟩, ⟨none, none, (.store 1 (.t 15) (.t 14))⟩]) (.seq (.ops [⟨(some 16), none, (.load (some 3) (.t 3))⟩, ⟨none, none, (.store 3 (.t 2) (.t 16))⟩]) .ret))))))
theorem k_laws_toRecWorld : comp Try.prog 17 (Try.f59.body.getD .skip) = some c_laws_toRecWorld := by kernel_rfl

theorem toRecWorld : ToLOk Try.prog 59 shRecWorld := by
  rintro ts σ ht h1
  obtain ⟨n0, n1, n2, rfl, b0, b1, b2⟩ := isRecWorld ht
  rw [sizeRecWorld] at h1
  refine acalls_of Try.func59 (by decide +kernel) (code := Try.f59.body.getD .skip) (n := 17) (c := c_laws_toRecWorld) (rs := [(.cell 2 (some 3))]) rfl rfl k_laws_toRecWorld (by kernel_rfl) (by simp) (fun hσ => ?_)
  simp -implicitDefEqProofs only [c_laws_toRecWorld, S0, S1, S2, S3, S4, S5, S6, S7, S8, S9, S10, S11, S12, S13, S14, S15, opv, opvs, eget, env0, setD, lenStr, lenSl, isNilP, isNilS, putAt, if_true, if_false, reduceCtorEq, Nat.reduceLeDiff, Nat.reduceEqDiff, Nat.reduceSub, Nat.reduceMul, Nat.reduceAdd]
  refine call_by (by rw [List.append_nil]; exact toRecorderS n0 _ b0 (by omega)) ?_
  rintro u0 σ' ⟨τ0, j0, rfl, o0, w0⟩
  have e0 := o0.one
  simp -implicitDefEqProofs only [one_cells e0, e0, S0, S1, S2, S3, S4, S5, S6, S7, S8, S9, S10, S11, S12, S13, S14, S15, opv, opvs, eget, env0, setD, lenStr, lenSl, isNilP, isNilS, putAt, if_true, if_false, reduceCtorEq, Nat.reduceLeDiff, Nat.reduceEqDiff, Nat.reduceSub, Nat.reduceMul, Nat.reduceAdd]
  refine call_by (by rw [List.append_nil]; exact toRecMessageS n1 _ b1 (by omega)) ?_
  rintro u1 σ' ⟨τ1, j1, rfl, o1, w1⟩
  have e1 := o1.one
  simp -implicitDefEqProofs only [one_cells e1, e0, e1, S0, S1, S2, S3, S4, S5, S6, S7, S8, S9, S10, S11, S12, S13, S14, S15, opv, opvs, eget, env0, setD, lenStr, lenSl, isNilP, isNilS, putAt, if_true, if_false, reduceCtorEq, Nat.reduceLeDiff, Nat.reduceEqDiff, Nat.reduceSub, Nat.reduceMul, Nat.reduceAdd]
  refine call_by (by rw [List.append_nil]; exact toRecFixS n2 _ b2 (by omega)) ?_
  rintro u2 σ' ⟨τ2, j2, rfl, o2, w2⟩
  have e2 := o2.one
  simp -implicitDefEqProofs only [one_cells e2, e0, e1, e2, S0, S1, S2, S3, S4, S5, S6, S7, S8, S9, S10, S11, S12, S13, S14, S15, opv, opvs, eget, env0, setD, lenStr, lenSl, isNilP, isNilS, putAt, if_true, if_false, reduceCtorEq, Nat.reduceLeDiff, Nat.reduceEqDiff, Nat.reduceSub, Nat.reduceMul, Nat.reduceAdd]
  refine fin_keep (by simp) ⟨_, _, (j0 ++ (j1 ++ (j2 ++ []))), rfl, rfl, (OwnL.lst (own_pre (A := [_, _, _]) (A' := [_, _, _]) (B := τ0) (B' := (τ0 ++ (τ1 ++ τ2))) o0 w0 (List.append_assoc ..) rfl rfl (by simp) (by simp)) (OwnL.lst (own_pre (A := [_, _, _]) (A' := [_, _, _]) (B := (τ0 ++ τ1)) (B' := (τ0 ++ (τ1 ++ τ2))) o1 w1 (List.append_assoc ..) rfl rfl (by simp) (by simp)) (OwnL.lst (own_pre (A := [_, _, _]) (A' := [_, _, _]) (B := ((τ0 ++ τ1) ++ τ2)) (B' := (τ0 ++ (τ1 ++ τ2))) o2 w2 (List.append_assoc ..) rfl rfl (by simp) (by simp)) OwnL.nil0))), ?_⟩
  simp only [List.length_append, List.length_cons, List.length_nil] at w0 w1 w2 ⊢
  refine Wi.mono (a := σ.length) ?_ (Nat.le_refl _) (Nat.le_refl _)
  exact wi_more w0 (wi_more w1 (wi_last w2 (by omega) (by omega)) (by omega) (by omega)) (by omega) (by omega)
theorem toRecWorld_x {n0} {n1} {n2} (σ : Store) (b0 : T.is (.sl 18 shRecorder) n0) (b1 : T.is (.sl 8 shRecMessage) n1) (b2 : T.is (.sl 2 shRecFix) n2) (hz : n0.size + n1.size + n2.size ≤ 1048576) : ACalls Try.prog 59 [.agg [.t n0, .t n1, .t n2]] σ (ToLR [n0, n1, n2] σ) := by
  have h := toRecWorld [n0, n1, n2] σ (mkRecWorld b0 b1 b2) (by rw [sizeRecWorld]; omega)
  exact h
end Go.Proofs.Ytleilaipdhmgeaa.W

end


section
open Go Go.Ab
namespace Go.Proofs.Ytleilaipdhmgeaa.W
structure RecSlot where
  Ballot : Int
  Text : List UInt8
def RecSlot.ts (x : RecSlot) : List T := [.int .i64 x.Ballot, .str x.Text]
abbrev RecSlot.vs (x : RecSlot) : List V := [.t (.int .i64 x.Ballot), .t (.str x.Text)]
theorem RecSlot.vs_ts (x : RecSlot) : x.ts.map V.t = x.vs := rfl
structure RecSlot.Ok (x : RecSlot) : Prop where
  Ballot : i64r x.Ballot
  Text : x.Text.length ≤ 1048576
abbrev tRecSlotS (l : List RecSlot) : T := .lst 2 (l.map RecSlot.ts)
abbrev RecSlot.OkS (l : List RecSlot) : Prop := l.length ≤ 1048576 ∧ ∀ y ∈ l, y.Ok
theorem of_RecSlot {ts : List T} (h : T.isL shRecSlot ts) : ∃ x : RecSlot, ts = x.ts ∧ (T.sizeL ts ≤ 1048576 → x.Ok) := by
  obtain ⟨n0, n1, rfl, b0, b1⟩ := isRecSlot h
  refine ⟨⟨n0, n1⟩, rfl, fun hz => ?_⟩
  rw [sizeRecSlot] at hz
  exact ⟨wf_i64 b0, by simp only; omega⟩
theorem of_RecSlotS {t : T} (h : T.is (.sl 2 shRecSlot) t) : ∃ l : List RecSlot, t = .lst 2 (l.map RecSlot.ts) ∧ (t.size ≤ 1048576 → RecSlot.OkS l) := of_list (fun ts h => of_RecSlot h) h
structure RecDisk where
  Promise : Int
  Known : Int
  Slots : List RecSlot
def RecDisk.ts (x : RecDisk) : List T := [.int .i64 x.Promise, .int .i64 x.Known, .lst 2 (x.Slots.map RecSlot.ts)]
abbrev RecDisk.vs (x : RecDisk) : List V := [.t (.int .i64 x.Promise), .t (.int .i64 x.Known), .t (.lst 2 (x.Slots.map RecSlot.ts))]
theorem RecDisk.vs_ts (x : RecDisk) : x.ts.map V.t = x.vs := rfl
structure RecDisk.Ok (x : RecDisk) : Prop where
  Promise : i64r x.Promise
  Known : i64r x.Known
  Slots : RecSlot.OkS x.Slots
abbrev tRecDiskS (l : List RecDisk) : T := .lst 3 (l.map RecDisk.ts)
abbrev RecDisk.OkS (l : List RecDisk) : Prop := l.length ≤ 1048576 ∧ ∀ y ∈ l, y.Ok
theorem of_RecDisk {ts : List T} (h : T.isL shRecDisk ts) : ∃ x : RecDisk, ts = x.ts ∧ (T.sizeL ts ≤ 1048576 → x.Ok) := by
  obtain ⟨n0, n1, n2, rfl, b0, b1, b2⟩ := isRecDisk h
  obtain ⟨l2, rfl, c2⟩ := of_RecSlotS b2
  refine ⟨⟨n0, n1, l2⟩, rfl, fun hz => ?_⟩
  rw [sizeRecDisk] at hz
  exact ⟨wf_i64 b0, wf_i64 b1, c2 (by omega)⟩
theorem of_RecDiskS {t : T} (h : T.is (.sl 3 shRecDisk) t) : ∃ l : List RecDisk, t = .lst 3 (l.map RecDisk.ts) ∧ (t.size ≤ 1048576 → RecDisk.OkS l) := of_list (fun ts h => of_RecDisk h) h
structure RecMessage where
  Kind : Int
  From : Int
  To : Int
  Ballot : Int
  Index : Int
  Known : Int
  Text : List UInt8
  Slots : List RecSlot
def RecMessage.ts (x : RecMessage) : List T := [.int .i64 x.Kind, .int .i64 x.From, .int .i64 x.To, .int .i64 x.Ballot, .int .i64 x.Index, .int .i64 x.Known, .str x.Text, .lst 2 (x.Slots.map RecSlot.ts)]
abbrev RecMessage.vs (x : RecMessage) : List V := [.t (.int .i64 x.Kind), .t (.int .i64 x.From), .t (.int .i64 x.To), .t (.int .i64 x.Ballot), .t (.int .i64 x.Index), .t (.int .i64 x.Known), .t (.str x.Text), .t (.lst 2 (x.Slots.map RecSlot.ts))]
theorem RecMessage.vs_ts (x : RecMessage) : x.ts.map V.t = x.vs := rfl
structure RecMessage.Ok (x : RecMessage) : Prop where
  Kind : i64r x.Kind
  From : i64r x.From
  To : i64r x.To
  Ballot : i64r x.Ballot
  Index : i64r x.Index
  Known : i64r x.Known
  Text : x.Text.length ≤ 1048576
  Slots : RecSlot.OkS x.Slots
abbrev tRecMessageS (l : List RecMessage) : T := .lst 8 (l.map RecMessage.ts)
abbrev RecMessage.OkS (l : List RecMessage) : Prop := l.length ≤ 1048576 ∧ ∀ y ∈ l, y.Ok
theorem of_RecMessage {ts : List T} (h : T.isL shRecMessage ts) : ∃ x : RecMessage, ts = x.ts ∧ (T.sizeL ts ≤ 1048576 → x.Ok) := by
  obtain ⟨n0, n1, n2, n3, n4, n5, n6, n7, rfl, b0, b1, b2, b3, b4, b5, b6, b7⟩ := isRecMessage h
  obtain ⟨l7, rfl, c7⟩ := of_RecSlotS b7
  refine ⟨⟨n0, n1, n2, n3, n4, n5, n6, l7⟩, rfl, fun hz => ?_⟩
  rw [sizeRecMessage] at hz
  exact ⟨wf_i64 b0, wf_i64 b1, wf_i64 b2, wf_i64 b3, wf_i64 b4, wf_i64 b5, by simp only; omega, c7 (by omega)⟩
theorem of_RecMessageS {t : T} (h : T.is (.sl 8 shRecMessage) t) : ∃ l : List RecMessage, t = .lst 8 (l.map RecMessage.ts) ∧ (t.size ≤ 1048576 → RecMessage.OkS l) := of_list (fun ts h => of_RecMessage h) h
structure RecAck where
  Index : Int
  From : List Int
def RecAck.ts (x : RecAck) : List T := [.int .i64 x.Index, .lst 1 (x.From.map tInt)]
abbrev RecAck.vs (x : RecAck) : List V := [.t (.int .i64 x.Index), .t (.lst 1 (x.From.map tInt))]
theorem RecAck.vs_ts (x : RecAck) : x.ts.map V.t = x.vs := rfl
structure RecAck.Ok (x : RecAck) : Prop where
  Index : i64r x.Index
  From : IntsOk x.From
abbrev tRecAckS (l : List RecAck) : T := .lst 2 (l.map RecAck.ts)
abbrev RecAck.OkS (l : List RecAck) : Prop := l.length ≤ 1048576 ∧ ∀ y ∈ l, y.Ok
theorem of_RecAck {ts : List T} (h : T.isL shRecAck ts) : ∃ x : RecAck, ts = x.ts ∧ (T.sizeL ts ≤ 1048576 → x.Ok) := by
  obtain ⟨n0, n1, rfl, b0, b1⟩ := isRecAck h
  obtain ⟨l1, rfl, c1⟩ := of_ints b1
  refine ⟨⟨n0, l1⟩, rfl, fun hz => ?_⟩
  rw [sizeRecAck] at hz
  exact ⟨wf_i64 b0, c1 (by omega)⟩
theorem of_RecAckS {t : T} (h : T.is (.sl 2 shRecAck) t) : ∃ l : List RecAck, t = .lst 2 (l.map RecAck.ts) ∧ (t.size ≤ 1048576 → RecAck.OkS l) := of_list (fun ts h => of_RecAck h) h
structure RecFix where
  Index : Int
  Text : List UInt8
def RecFix.ts (x : RecFix) : List T := [.int .i64 x.Index, .str x.Text]
abbrev RecFix.vs (x : RecFix) : List V := [.t (.int .i64 x.Index), .t (.str x.Text)]
theorem RecFix.vs_ts (x : RecFix) : x.ts.map V.t = x.vs := rfl
structure RecFix.Ok (x : RecFix) : Prop where
  Index : i64r x.Index
  Text : x.Text.length ≤ 1048576
abbrev tRecFixS (l : List RecFix) : T := .lst 2 (l.map RecFix.ts)
abbrev RecFix.OkS (l : List RecFix) : Prop := l.length ≤ 1048576 ∧ ∀ y ∈ l, y.Ok
theorem of_RecFix {ts : List T} (h : T.isL shRecFix ts) : ∃ x : RecFix, ts = x.ts ∧ (T.sizeL ts ≤ 1048576 → x.Ok) := by
  obtain ⟨n0, n1, rfl, b0, b1⟩ := isRecFix h
  refine ⟨⟨n0, n1⟩, rfl, fun hz => ?_⟩
  rw [sizeRecFix] at hz
  exact ⟨wf_i64 b0, by simp only; omega⟩
theorem of_RecFixS {t : T} (h : T.is (.sl 2 shRecFix) t) : ∃ l : List RecFix, t = .lst 2 (l.map RecFix.ts) ∧ (t.size ≤ 1048576 → RecFix.OkS l) := of_list (fun ts h => of_RecFix h) h
structure Recorder where
  Number : Int
  Of : Int
  Up : Bool
  Safe : RecDisk
  Disk : RecDisk
  Held : List RecMessage
  Wishes : List (List UInt8)
  Lead : Bool
  Trying : Bool
  Ballot : Int
  Yes : List Int
  Best : List RecSlot
  Acks : List RecAck
  Heard : Int
def Recorder.ts (x : Recorder) : List T := [.int .i64 x.Number, .int .i64 x.Of, .bool x.Up, .int .i64 x.Safe.Promise, .int .i64 x.Safe.Known, .lst 2 (x.Safe.Slots.map RecSlot.ts), .int .i64 x.Disk.Promise, .int .i64 x.Disk.Known, .lst 2 (x.Disk.Slots.map RecSlot.ts), .lst 8 (x.Held.map RecMessage.ts), .lst 1 (x.Wishes.map tStr), .bool x.Lead, .bool x.Trying, .int .i64 x.Ballot, .lst 1 (x.Yes.map tInt), .lst 2 (x.Best.map RecSlot.ts), .lst 2 (x.Acks.map RecAck.ts), .int .i64 x.Heard]
abbrev Recorder.vs (x : Recorder) : List V := [.t (.int .i64 x.Number), .t (.int .i64 x.Of), .t (.bool x.Up), .t (.int .i64 x.Safe.Promise), .t (.int .i64 x.Safe.Known), .t (.lst 2 (x.Safe.Slots.map RecSlot.ts)), .t (.int .i64 x.Disk.Promise), .t (.int .i64 x.Disk.Known), .t (.lst 2 (x.Disk.Slots.map RecSlot.ts)), .t (.lst 8 (x.Held.map RecMessage.ts)), .t (.lst 1 (x.Wishes.map tStr)), .t (.bool x.Lead), .t (.bool x.Trying), .t (.int .i64 x.Ballot), .t (.lst 1 (x.Yes.map tInt)), .t (.lst 2 (x.Best.map RecSlot.ts)), .t (.lst 2 (x.Acks.map RecAck.ts)), .t (.int .i64 x.Heard)]
theorem Recorder.vs_ts (x : Recorder) : x.ts.map V.t = x.vs := rfl
structure Recorder.Ok (x : Recorder) : Prop where
  Number : i64r x.Number
  Of : i64r x.Of
  Safe : RecDisk.Ok x.Safe
  Disk : RecDisk.Ok x.Disk
  Held : RecMessage.OkS x.Held
  Wishes : StrsOk x.Wishes
  Ballot : i64r x.Ballot
  Yes : IntsOk x.Yes
  Best : RecSlot.OkS x.Best
  Acks : RecAck.OkS x.Acks
  Heard : i64r x.Heard
abbrev tRecorderS (l : List Recorder) : T := .lst 18 (l.map Recorder.ts)
abbrev Recorder.OkS (l : List Recorder) : Prop := l.length ≤ 1048576 ∧ ∀ y ∈ l, y.Ok
theorem of_Recorder {ts : List T} (h : T.isL shRecorder ts) : ∃ x : Recorder, ts = x.ts ∧ (T.sizeL ts ≤ 1048576 → x.Ok) := by
  obtain ⟨n0, n1, n2, n3, n4, n5, n6, n7, n8, n9, n10, n11, n12, n13, n14, n15, n16, n17, rfl, b0, b1, b3, b4, b5, b6, b7, b8, b9, b10, b13, b14, b15, b16, b17⟩ := isRecorder h
  obtain ⟨l5, rfl, c5⟩ := of_RecSlotS b5
  obtain ⟨l8, rfl, c8⟩ := of_RecSlotS b8
  obtain ⟨l9, rfl, c9⟩ := of_RecMessageS b9
  obtain ⟨l10, rfl, c10⟩ := of_strs b10
  obtain ⟨l14, rfl, c14⟩ := of_ints b14
  obtain ⟨l15, rfl, c15⟩ := of_RecSlotS b15
  obtain ⟨l16, rfl, c16⟩ := of_RecAckS b16
  refine ⟨⟨n0, n1, n2, ⟨n3, n4, l5⟩, ⟨n6, n7, l8⟩, l9, l10, n11, n12, n13, l14, l15, l16, n17⟩, rfl, fun hz => ?_⟩
  rw [sizeRecorder] at hz
  exact ⟨wf_i64 b0, wf_i64 b1, ⟨wf_i64 b3, wf_i64 b4, c5 (by omega)⟩, ⟨wf_i64 b6, wf_i64 b7, c8 (by omega)⟩, c9 (by omega), c10 (by omega), wf_i64 b13, c14 (by omega), c15 (by omega), c16 (by omega), wf_i64 b17⟩
theorem of_RecorderS {t : T} (h : T.is (.sl 18 shRecorder) t) : ∃ l : List Recorder, t = .lst 18 (l.map Recorder.ts) ∧ (t.size ≤ 1048576 → Recorder.OkS l) := of_list (fun ts h => of_Recorder h) h
structure RecWorld where
  Recorders : List Recorder
  Flight : List RecMessage
  Fixed : List RecFix
def RecWorld.ts (x : RecWorld) : List T := [.lst 18 (x.Recorders.map Recorder.ts), .lst 8 (x.Flight.map RecMessage.ts), .lst 2 (x.Fixed.map RecFix.ts)]
abbrev RecWorld.vs (x : RecWorld) : List V := [.t (.lst 18 (x.Recorders.map Recorder.ts)), .t (.lst 8 (x.Flight.map RecMessage.ts)), .t (.lst 2 (x.Fixed.map RecFix.ts))]
theorem RecWorld.vs_ts (x : RecWorld) : x.ts.map V.t = x.vs := rfl
structure RecWorld.Ok (x : RecWorld) : Prop where
  Recorders : Recorder.OkS x.Recorders
  Flight : RecMessage.OkS x.Flight
  Fixed : RecFix.OkS x.Fixed
abbrev tRecWorldS (l : List RecWorld) : T := .lst 3 (l.map RecWorld.ts)
abbrev RecWorld.OkS (l : List RecWorld) : Prop := l.length ≤ 1048576 ∧ ∀ y ∈ l, y.Ok
theorem of_RecWorld {ts : List T} (h : T.isL shRecWorld ts) : ∃ x : RecWorld, ts = x.ts ∧ (T.sizeL ts ≤ 1048576 → x.Ok) := by
  obtain ⟨n0, n1, n2, rfl, b0, b1, b2⟩ := isRecWorld h
  obtain ⟨l0, rfl, c0⟩ := of_RecorderS b0
  obtain ⟨l1, rfl, c1⟩ := of_RecMessageS b1
  obtain ⟨l2, rfl, c2⟩ := of_RecFixS b2
  refine ⟨⟨l0, l1, l2⟩, rfl, fun hz => ?_⟩
  rw [sizeRecWorld] at hz
  exact ⟨c0 (by omega), c1 (by omega), c2 (by omega)⟩
theorem of_RecWorldS {t : T} (h : T.is (.sl 3 shRecWorld) t) : ∃ l : List RecWorld, t = .lst 3 (l.map RecWorld.ts) ∧ (t.size ≤ 1048576 → RecWorld.OkS l) := of_list (fun ts h => of_RecWorld h) h
end Go.Proofs.Ytleilaipdhmgeaa.W

end
