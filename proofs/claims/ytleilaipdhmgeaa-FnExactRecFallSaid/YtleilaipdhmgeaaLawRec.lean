/- What the laws' own helpers do with these structs: sizes, copies, comparing (printed by laws.py). Conditions: none. -/
import Derived.Test.YtleilaipdhmgeaaAbS
import Derived.IntWalk
import Derived.Test.YtleilaipdhmgeaaProg
import Derived.KernelRfl
set_option linter.unusedSimpArgs false
set_option linter.unusedVariables false
set_option linter.defProp false
open Go Go.Ab
set_option maxHeartbeats 2000000
namespace Go.Proofs.Ytleilaipdhmgeaa.W
theorem i_szStringS : Is Try.prog 100 28 [(.tmp 4)] (tSzStr) := ⟨_, _, Try.func100, by decide +kernel, rfl, rfl, by kernel_rfl, rfl⟩
theorem szStringS : SzOk Try.prog 100 (.sl 1 [.str]) := szStr_ok i_szStringS
theorem i_szIntS : Is Try.prog 101 12 [(.tmp 4)] (tSzInt) := ⟨_, _, Try.func101, by decide +kernel, rfl, rfl, by kernel_rfl, rfl⟩
theorem szIntS : SzOk Try.prog 101 (.sl 1 [.int .i64]) := szInt_ok i_szIntS
theorem i_eqStringS : Is Try.prog 54 26 [(.tmp 4)] (tEq1) := ⟨_, _, Try.func54, by decide +kernel, rfl, rfl, by kernel_rfl, rfl⟩
theorem eqStringS : EqOk Try.prog 54 (.sl 1 [.str]) := eqStr_ok i_eqStringS
theorem i_eqIntS : Is Try.prog 89 26 [(.tmp 4)] (tEq1) := ⟨_, _, Try.func89, by decide +kernel, rfl, rfl, by kernel_rfl, rfl⟩
theorem eqIntS : EqOk Try.prog 89 (.sl 1 [.int .i64]) := eqInt_ok i_eqIntS
theorem i_toStringS : Is Try.prog 108 22 [(.tmp 2)] (tTo1 16 [.t (.str [])]) := ⟨_, _, Try.func108, by decide +kernel, rfl, rfl, by kernel_rfl, rfl⟩
theorem toStringS : ToOk Try.prog 108 (.sl 1 [.str]) := to1_ok 16 [.t (.str [])] sc_str rfl (by decide) i_toStringS
theorem i_toIntS : Is Try.prog 109 22 [(.tmp 2)] (tTo1 8 [.t (.int .i64 0)]) := ⟨_, _, Try.func109, by decide +kernel, rfl, rfl, by kernel_rfl, rfl⟩
theorem toIntS : ToOk Try.prog 109 (.sl 1 [.int .i64]) := to1_ok 8 [.t (.int .i64 0)] sc_int rfl (by decide) i_toIntS
def shRecSlot : List Sh := [.int .i64, .str]
theorem isRecSlot {ts : List T} (ht : T.isL shRecSlot ts) : ∃ n0 n1, ts = [(.int .i64 n0), (.str n1)] ∧ (Lit.int .i64 n0).wf = true ∧ n1.length ≤ maxLen := by
  simp only [shRecSlot, isL_cons, isL_nil, is_int, is_bool, is_str] at ht
  obtain ⟨_, _, rfl, ⟨n0, rfl, b0⟩, _, _, rfl, ⟨n1, rfl, b1⟩, rfl⟩ := ht
  exact ⟨_, _, rfl, b0, b1⟩
theorem mkRecSlot {n0} {n1} (b0 : (Lit.int .i64 n0).wf = true) (b1 : n1.length ≤ maxLen) : T.isL shRecSlot [(.int .i64 n0), (.str n1)] := by
  simp only [shRecSlot, isL_cons, isL_nil, is_int, is_bool, is_str]
  exact ⟨_, _, rfl, ⟨_, rfl, b0⟩, _, _, rfl, ⟨_, rfl, b1⟩, rfl⟩
theorem sizeRecSlot {n0} {n1} : T.sizeL [(.int .i64 n0), (.str n1)] = n1.length := by
  simp only [sizeL_cons, sizeL_nil, size_int, size_bool, size_str]
  try omega
def c_laws_szRecSlot : C := (.seq (.ops [⟨(some 2), none, (.box (.t 0))⟩, ⟨(some 4), none, (.mv (.c (.t (.int .i64 0))))⟩]) (.seq (.ops [⟨(some 5), none, (.mv (.t 1))⟩, ⟨(some 6), none, (.fieldAddr 1 (.t 2))⟩, ⟨(some 7), none, (.load none (.t 6))⟩, ⟨(some 8), none, (.len true (.t 7))⟩, ⟨(some 9), none, (.bin .sub (.t 5) (.t 8))⟩, ⟨(some 1), none, (.mv (.t 9))⟩]) (.seq (.seq (.ops [⟨(some 10), none, (.mv (.t 1))⟩, ⟨(some 11), none, (.bin .lss (.t 10) (.c (.t (.int .i64 0))))⟩]) (.cond (.t 11) (.seq (.ops [⟨(some 4), none, (.mv (.c (.t (.int .i64 (-1)))))⟩]) .ret) .skip)) (.seq (.ops [⟨(some 12), none, (.mv (.t 1))⟩, ⟨(some 4), none, (.mv (.t 12))⟩]) .ret))))
theorem k_laws_szRecSlot : comp Try.prog 13 (Try.f81.body.getD .skip) = some c_laws_szRecSlot := by kernel_rfl

theorem szRecSlot : SzLOk Try.prog 81 shRecSlot := by
  rintro ts left σ ht h0 h1
  obtain ⟨n0, n1, rfl, b0, b1⟩ := isRecSlot ht
  refine acalls_of Try.func81 (by decide +kernel) (code := Try.f81.body.getD .skip) (n := 13) (c := c_laws_szRecSlot) (rs := [(.tmp 4)]) rfl rfl k_laws_szRecSlot (by kernel_rfl) (by simp) (fun hσ => ?_)
  try simp only [maxLen] at *
  have fin : ∀ {n : Int} {τ : Store}, n ≤ left → (0 ≤ n → ((n1.length : Nat) : Int) + n ≤ left) → retV σ.length (SzR (T.sizeL [(.int .i64 n0), (.str n1)]) left σ) (σ ++ τ) (some [.t (.int .i64 n)]) := fun h h' => ret_same rfl hσ rfl ⟨⟨_, rfl, h, fun h0 => by have := h' h0; rw [sizeRecSlot]; exact this⟩, rfl⟩
  have w1 : IntKind.i64.wrap (left - n1.length) = left - n1.length := IntWalk.i64_in _ (by omega)
  simp -implicitDefEqProofs only [c_laws_szRecSlot, w1, S0, S1, S2, S3, S4, S5, S6, S7, S8, S9, S10, S11, S12, S13, S14, S15, opv, opvs, eget, env0, setD, lenStr, lenSl, isNilP, isNilS, putAt, if_true, if_false, reduceCtorEq, Nat.reduceLeDiff, Nat.reduceEqDiff, Nat.reduceSub, Nat.reduceMul, Nat.reduceAdd]
  refine cond_split (fun h => ?_) (fun h => ?_)
  · simp -implicitDefEqProofs only [S0, S1, S2, S3, S4, S5, S6, S7, S8, S9, S10, S11, S12, S13, S14, S15, opv, opvs, eget, env0, setD, lenStr, lenSl, isNilP, isNilS, putAt, if_true, if_false, reduceCtorEq, Nat.reduceLeDiff, Nat.reduceEqDiff, Nat.reduceSub, Nat.reduceMul, Nat.reduceAdd]
    simp only [decide_eq_true_eq] at h
    exact fin (by omega) (by omega)
  simp only [decide_eq_false_iff_not, Int.not_lt] at h
  simp -implicitDefEqProofs only [S0, S1, S2, S3, S4, S5, S6, S7, S8, S9, S10, S11, S12, S13, S14, S15, opv, opvs, eget, env0, setD, lenStr, lenSl, isNilP, isNilS, putAt, if_true, if_false, reduceCtorEq, Nat.reduceLeDiff, Nat.reduceEqDiff, Nat.reduceSub, Nat.reduceMul, Nat.reduceAdd]
  exact fin (by omega) (fun _ => by omega)
theorem szRecSlot_x {n0} {n1} (left : Int) (σ : Store) (b0 : (Lit.int .i64 n0).wf = true) (b1 : n1.length ≤ maxLen) (h0 : 0 ≤ left) (h1 : left ≤ 1048576) : ACalls Try.prog 81 [.agg [.t (.int .i64 n0), .t (.str n1)], .t (.int .i64 left)] σ (SzR (T.sizeL [(.int .i64 n0), (.str n1)]) left σ) := by
  have h := szRecSlot [(.int .i64 n0), (.str n1)] left σ (mkRecSlot b0 b1) h0 h1
  exact h
def c_laws_eqRecSlot : C := (.seq (.ops [⟨(some 2), none, (.box (.t 0))⟩, ⟨(some 3), none, (.box (.t 1))⟩, ⟨(some 4), none, (.mv (.c (.t (.bool false))))⟩]) (.seq (.seq (.ops [⟨(some 5), none, (.fieldAddr 0 (.t 2))⟩, ⟨(some 6), none, (.load none (.t 5))⟩, ⟨(some 7), none, (.fieldAddr 0 (.t 3))⟩, ⟨(some 8), none, (.load none (.t 7))⟩, ⟨(some 9), none, (.bin .neq (.t 6) (.t 8))⟩]) (.cond (.t 9) (.seq (.ops [⟨(some 4), none, (.mv (.c (.t (.bool false))))⟩]) .ret) .skip)) (.seq (.seq (.ops [⟨(some 10), none, (.fieldAddr 1 (.t 2))⟩, ⟨(some 11), none, (.load none (.t 10))⟩, ⟨(some 12), none, (.fieldAddr 1 (.t 3))⟩, ⟨(some 13), none, (.load none (.t 12))⟩, ⟨(some 14), none, (.bin .neq (.t 11) (.t 13))⟩]) (.cond (.t 14) (.seq (.ops [⟨(some 4), none, (.mv (.c (.t (.bool false))))⟩]) .ret) .skip)) (.seq (.ops [⟨(some 4), none, (.mv (.c (.t (.bool true))))⟩]) .ret))))
theorem k_laws_eqRecSlot : comp Try.prog 15 (Try.f84.body.getD .skip) = some c_laws_eqRecSlot := by kernel_rfl

theorem eqRecSlot : EqLOk Try.prog 84 shRecSlot := by
  rintro ts σ ht h1
  obtain ⟨n0, n1, rfl, b0, b1⟩ := isRecSlot ht
  rw [sizeRecSlot] at h1
  refine acalls_of Try.func84 (by decide +kernel) (code := Try.f84.body.getD .skip) (n := 15) (c := c_laws_eqRecSlot) (rs := [(.tmp 4)]) rfl rfl k_laws_eqRecSlot (by kernel_rfl) (by simp) (fun hσ => ?_)
  simp -implicitDefEqProofs only [c_laws_eqRecSlot, ne_self, beq_self_eq_true, S0, S1, S2, S3, S4, S5, S6, S7, S8, S9, S10, S11, S12, S13, S14, S15, opv, opvs, eget, env0, setD, lenStr, lenSl, isNilP, isNilS, putAt, if_true, if_false, reduceCtorEq, Nat.reduceLeDiff, Nat.reduceEqDiff, Nat.reduceSub, Nat.reduceMul, Nat.reduceAdd]
  exact ret_same rfl hσ rfl ⟨rfl, rfl⟩
theorem eqRecSlot_x {n0} {n1} (σ : Store) (b0 : (Lit.int .i64 n0).wf = true) (b1 : n1.length ≤ maxLen) (hz : n1.length ≤ 1099511627776) : ACalls Try.prog 84 [.agg [.t (.int .i64 n0), .t (.str n1)], .agg [.t (.int .i64 n0), .t (.str n1)]] σ (TrueR σ) := by
  have h := eqRecSlot [(.int .i64 n0), (.str n1)] σ (mkRecSlot b0 b1) (by rw [sizeRecSlot]; omega)
  exact h
def c_laws_toRecSlot : C := (.seq (.ops [⟨(some 1), none, (.box (.t 0))⟩, ⟨(some 2), none, (.new [(.t (.int .i64 0)), (.t (.str []))])⟩]) (.seq (.ops [⟨(some 3), none, (.new [(.t (.int .i64 0)), (.t (.str []))])⟩]) (.seq (.ops [⟨(some 4), none, (.fieldAddr 0 (.t 1))⟩, ⟨(some 5), none, (.load none (.t 4))⟩, ⟨(some 6), none, (.fieldAddr 0 (.t 3))⟩, ⟨none, none, (.store 1 (.t 6) (.t 5))⟩]) (.seq (.ops [⟨(some 7), none, (.fieldAddr 1 (.t 1))⟩, ⟨(some 8), none, (.load none (.t 7))⟩, ⟨(some 9), none, (.fieldAddr 1 (.t 3))⟩, ⟨none, none, (.store 1 (.t 9) (.t 8))⟩]) (.seq (.ops [⟨(some 10), none, (.load (some 2) (.t 3))⟩, ⟨none, none, (.store 2 (.t 2) (.t 10))⟩]) .ret)))))
theorem k_laws_toRecSlot : comp Try.prog 11 (Try.f83.body.getD .skip) = some c_laws_toRecSlot := by kernel_rfl

theorem toRecSlot : ToLOk Try.prog 83 shRecSlot := by
  rintro ts σ ht h1
  obtain ⟨n0, n1, rfl, b0, b1⟩ := isRecSlot ht
  rw [sizeRecSlot] at h1
  refine acalls_of Try.func83 (by decide +kernel) (code := Try.f83.body.getD .skip) (n := 11) (c := c_laws_toRecSlot) (rs := [(.cell 2 (some 2))]) rfl rfl k_laws_toRecSlot (by kernel_rfl) (by simp) (fun hσ => ?_)
  simp -implicitDefEqProofs only [c_laws_toRecSlot, S0, S1, S2, S3, S4, S5, S6, S7, S8, S9, S10, S11, S12, S13, S14, S15, opv, opvs, eget, env0, setD, lenStr, lenSl, isNilP, isNilS, putAt, if_true, if_false, reduceCtorEq, Nat.reduceLeDiff, Nat.reduceEqDiff, Nat.reduceSub, Nat.reduceMul, Nat.reduceAdd]
  exact fin_keep (by simp) ⟨_, _, [], rfl, rfl, (OwnL.int (OwnL.str OwnL.nil0)), Wi.nil⟩
theorem toRecSlot_x {n0} {n1} (σ : Store) (b0 : (Lit.int .i64 n0).wf = true) (b1 : n1.length ≤ maxLen) (hz : n1.length ≤ 1048576) : ACalls Try.prog 83 [.agg [.t (.int .i64 n0), .t (.str n1)]] σ (ToLR [(.int .i64 n0), (.str n1)] σ) := by
  have h := toRecSlot [(.int .i64 n0), (.str n1)] σ (mkRecSlot b0 b1) (by rw [sizeRecSlot]; omega)
  exact h
theorem i_szRecSlotS : Is Try.prog 21 27 [(.tmp 4)] (tSzS 2 81) := ⟨_, _, Try.func21, by decide +kernel, rfl, rfl, by kernel_rfl, rfl⟩
theorem szRecSlotS : SzOk Try.prog 21 (.sl 2 shRecSlot) := szS_ok rfl i_szRecSlotS szRecSlot
theorem i_eqRecSlotS : Is Try.prog 25 27 [(.tmp 4)] (tEqS 2 84) := ⟨_, _, Try.func25, by decide +kernel, rfl, rfl, by kernel_rfl, rfl⟩
theorem eqRecSlotS : EqOk Try.prog 25 (.sl 2 shRecSlot) := eqS_ok rfl i_eqRecSlotS eqRecSlot
theorem i_toRecSlotS : Is Try.prog 23 23 [(.tmp 2)] (tToS 2 24 83 [.t (.int .i64 0), .t (.str [])]) := ⟨_, _, Try.func23, by decide +kernel, rfl, rfl, by kernel_rfl, rfl⟩
theorem toRecSlotS : ToOk Try.prog 23 (.sl 2 shRecSlot) := toS_ok 24 [.t (.int .i64 0), .t (.str [])] rfl (by decide) rfl (by decide) i_toRecSlotS toRecSlot
def shRecDisk : List Sh := [.int .i64, .int .i64, .sl 2 shRecSlot]
theorem isRecDisk {ts : List T} (ht : T.isL shRecDisk ts) : ∃ n0 n1 n2, ts = [(.int .i64 n0), (.int .i64 n1), n2] ∧ (Lit.int .i64 n0).wf = true ∧ (Lit.int .i64 n1).wf = true ∧ T.is (.sl 2 shRecSlot) n2 := by
  simp only [shRecDisk, isL_cons, isL_nil, is_int, is_bool, is_str] at ht
  obtain ⟨_, _, rfl, ⟨n0, rfl, b0⟩, _, _, rfl, ⟨n1, rfl, b1⟩, n2, _, rfl, b2, rfl⟩ := ht
  exact ⟨_, _, _, rfl, b0, b1, b2⟩
theorem mkRecDisk {n0} {n1} {n2} (b0 : (Lit.int .i64 n0).wf = true) (b1 : (Lit.int .i64 n1).wf = true) (b2 : T.is (.sl 2 shRecSlot) n2) : T.isL shRecDisk [(.int .i64 n0), (.int .i64 n1), n2] := by
  simp only [shRecDisk, isL_cons, isL_nil, is_int, is_bool, is_str]
  exact ⟨_, _, rfl, ⟨_, rfl, b0⟩, _, _, rfl, ⟨_, rfl, b1⟩, _, _, rfl, b2, rfl⟩
theorem sizeRecDisk {n0} {n1} {n2} : T.sizeL [(.int .i64 n0), (.int .i64 n1), n2] = n2.size := by
  simp only [sizeL_cons, sizeL_nil, size_int, size_bool, size_str]
  try omega
def c_laws_szRecDisk : C := (.seq (.ops [⟨(some 2), none, (.box (.t 0))⟩, ⟨(some 4), none, (.mv (.c (.t (.int .i64 0))))⟩]) (.seq (.ops [⟨(some 5), none, (.fieldAddr 2 (.t 2))⟩, ⟨(some 6), none, (.load none (.t 5))⟩, ⟨(some 7), none, (.mv (.t 1))⟩, ⟨(some 8), none, (.call (.c (.fn (.func 21) [])) [(.t 6), (.t 7)])⟩, ⟨(some 1), none, (.mv (.t 8))⟩]) (.seq (.seq (.ops [⟨(some 9), none, (.mv (.t 1))⟩, ⟨(some 10), none, (.bin .lss (.t 9) (.c (.t (.int .i64 0))))⟩]) (.cond (.t 10) (.seq (.ops [⟨(some 4), none, (.mv (.c (.t (.int .i64 (-1)))))⟩]) .ret) .skip)) (.seq (.ops [⟨(some 11), none, (.mv (.t 1))⟩, ⟨(some 4), none, (.mv (.t 11))⟩]) .ret))))
theorem k_laws_szRecDisk : comp Try.prog 12 (Try.f28.body.getD .skip) = some c_laws_szRecDisk := by kernel_rfl

theorem szRecDisk : SzLOk Try.prog 28 shRecDisk := by
  rintro ts left σ ht h0 h1
  obtain ⟨n0, n1, n2, rfl, b0, b1, b2⟩ := isRecDisk ht
  refine acalls_of Try.func28 (by decide +kernel) (code := Try.f28.body.getD .skip) (n := 12) (c := c_laws_szRecDisk) (rs := [(.tmp 4)]) rfl rfl k_laws_szRecDisk (by kernel_rfl) (by simp) (fun hσ => ?_)
  try simp only [maxLen] at *
  have fin : ∀ {n : Int} {τ : Store}, n ≤ left → (0 ≤ n → ((n2.size : Nat) : Int) + n ≤ left) → retV σ.length (SzR (T.sizeL [(.int .i64 n0), (.int .i64 n1), n2]) left σ) (σ ++ τ) (some [.t (.int .i64 n)]) := fun h h' => ret_same rfl hσ rfl ⟨⟨_, rfl, h, fun h0 => by have := h' h0; rw [sizeRecDisk]; exact this⟩, rfl⟩
  simp -implicitDefEqProofs only [c_laws_szRecDisk, S0, S1, S2, S3, S4, S5, S6, S7, S8, S9, S10, S11, S12, S13, S14, S15, opv, opvs, eget, env0, setD, lenStr, lenSl, isNilP, isNilS, putAt, if_true, if_false, reduceCtorEq, Nat.reduceLeDiff, Nat.reduceEqDiff, Nat.reduceSub, Nat.reduceMul, Nat.reduceAdd]
  refine call_by (by rw [List.append_nil]; exact szRecSlotS n2 left _ b2 (by omega) (by omega)) ?_
  rintro r σ' ⟨⟨m2, rfl, hm2, hs2⟩, rfl⟩
  try simp only [sizeRecDisk] at hs2
  simp -implicitDefEqProofs only [S0, S1, S2, S3, S4, S5, S6, S7, S8, S9, S10, S11, S12, S13, S14, S15, opv, opvs, eget, env0, setD, lenStr, lenSl, isNilP, isNilS, putAt, if_true, if_false, reduceCtorEq, Nat.reduceLeDiff, Nat.reduceEqDiff, Nat.reduceSub, Nat.reduceMul, Nat.reduceAdd]
  refine cond_split (fun h => ?_) (fun h => ?_)
  · simp -implicitDefEqProofs only [S0, S1, S2, S3, S4, S5, S6, S7, S8, S9, S10, S11, S12, S13, S14, S15, opv, opvs, eget, env0, setD, lenStr, lenSl, isNilP, isNilS, putAt, if_true, if_false, reduceCtorEq, Nat.reduceLeDiff, Nat.reduceEqDiff, Nat.reduceSub, Nat.reduceMul, Nat.reduceAdd]
    simp only [decide_eq_true_eq] at h
    exact fin (by omega) (by omega)
  simp only [decide_eq_false_iff_not, Int.not_lt] at h
  replace hs2 := hs2 h
  simp -implicitDefEqProofs only [S0, S1, S2, S3, S4, S5, S6, S7, S8, S9, S10, S11, S12, S13, S14, S15, opv, opvs, eget, env0, setD, lenStr, lenSl, isNilP, isNilS, putAt, if_true, if_false, reduceCtorEq, Nat.reduceLeDiff, Nat.reduceEqDiff, Nat.reduceSub, Nat.reduceMul, Nat.reduceAdd]
  exact fin (by omega) (fun _ => by omega)
theorem szRecDisk_x {n0} {n1} {n2} (left : Int) (σ : Store) (b0 : (Lit.int .i64 n0).wf = true) (b1 : (Lit.int .i64 n1).wf = true) (b2 : T.is (.sl 2 shRecSlot) n2) (h0 : 0 ≤ left) (h1 : left ≤ 1048576) : ACalls Try.prog 28 [.agg [.t (.int .i64 n0), .t (.int .i64 n1), .t n2], .t (.int .i64 left)] σ (SzR (T.sizeL [(.int .i64 n0), (.int .i64 n1), n2]) left σ) := by
  have h := szRecDisk [(.int .i64 n0), (.int .i64 n1), n2] left σ (mkRecDisk b0 b1 b2) h0 h1
  exact h
def c_laws_eqRecDisk : C := (.seq (.ops [⟨(some 2), none, (.box (.t 0))⟩, ⟨(some 3), none, (.box (.t 1))⟩, ⟨(some 4), none, (.mv (.c (.t (.bool false))))⟩]) (.seq (.seq (.ops [⟨(some 5), none, (.fieldAddr 0 (.t 2))⟩, ⟨(some 6), none, (.load none (.t 5))⟩, ⟨(some 7), none, (.fieldAddr 0 (.t 3))⟩, ⟨(some 8), none, (.load none (.t 7))⟩, ⟨(some 9), none, (.bin .neq (.t 6) (.t 8))⟩]) (.cond (.t 9) (.seq (.ops [⟨(some 4), none, (.mv (.c (.t (.bool false))))⟩]) .ret) .skip)) (.seq (.seq (.ops [⟨(some 10), none, (.fieldAddr 1 (.t 2))⟩, ⟨(some 11), none, (.load none (.t 10))⟩, ⟨(some 12), none, (.fieldAddr 1 (.t 3))⟩, ⟨(some 13), none, (.load none (.t 12))⟩, ⟨(some 14), none, (.bin .neq (.t 11) (.t 13))⟩]) (.cond (.t 14) (.seq (.ops [⟨(some 4), none, (.mv (.c (.t (.bool false))))⟩]) .ret) .skip)) (.seq (.seq (.ops [⟨(some 15), none, (.fieldAddr 2 (.t 2))⟩, ⟨(some 16), none, (.load none (.t 15))⟩, ⟨(some 17), none, (.fieldAddr 2 (.t 3))⟩, ⟨(some 18), none, (.load none (.t 17))⟩, ⟨(some 19), none, (.call (.c (.fn (.func 25) [])) [(.t 16), (.t 18)])⟩, ⟨(some 20), none, (.un .not (.t 19))⟩]) (.cond (.t 20) (.seq (.ops [⟨(some 4), none, (.mv (.c (.t (.bool false))))⟩]) .ret) .skip)) (.seq (.ops [⟨(some 4), none, (.mv (.c (.t (.bool true))))⟩]) .ret)))))
theorem k_laws_eqRecDisk : comp Try.prog 21 (Try.f32.body.getD .skip) = some c_laws_eqRecDisk := by kernel_rfl

theorem eqRecDisk : EqLOk Try.prog 32 shRecDisk := by
  rintro ts σ ht h1
  obtain ⟨n0, n1, n2, rfl, b0, b1, b2⟩ := isRecDisk ht
  rw [sizeRecDisk] at h1
  refine acalls_of Try.func32 (by decide +kernel) (code := Try.f32.body.getD .skip) (n := 21) (c := c_laws_eqRecDisk) (rs := [(.tmp 4)]) rfl rfl k_laws_eqRecDisk (by kernel_rfl) (by simp) (fun hσ => ?_)
  simp -implicitDefEqProofs only [c_laws_eqRecDisk, ne_self, beq_self_eq_true, S0, S1, S2, S3, S4, S5, S6, S7, S8, S9, S10, S11, S12, S13, S14, S15, opv, opvs, eget, env0, setD, lenStr, lenSl, isNilP, isNilS, putAt, if_true, if_false, reduceCtorEq, Nat.reduceLeDiff, Nat.reduceEqDiff, Nat.reduceSub, Nat.reduceMul, Nat.reduceAdd]
  refine call_pure (eqRecSlotS n2 _ b2 (by omega)) ?_
  simp -implicitDefEqProofs only [ne_self, beq_self_eq_true, S0, S1, S2, S3, S4, S5, S6, S7, S8, S9, S10, S11, S12, S13, S14, S15, opv, opvs, eget, env0, setD, lenStr, lenSl, isNilP, isNilS, putAt, if_true, if_false, reduceCtorEq, Nat.reduceLeDiff, Nat.reduceEqDiff, Nat.reduceSub, Nat.reduceMul, Nat.reduceAdd]
  exact ret_same rfl hσ rfl ⟨rfl, rfl⟩
theorem eqRecDisk_x {n0} {n1} {n2} (σ : Store) (b0 : (Lit.int .i64 n0).wf = true) (b1 : (Lit.int .i64 n1).wf = true) (b2 : T.is (.sl 2 shRecSlot) n2) (hz : n2.size ≤ 1099511627776) : ACalls Try.prog 32 [.agg [.t (.int .i64 n0), .t (.int .i64 n1), .t n2], .agg [.t (.int .i64 n0), .t (.int .i64 n1), .t n2]] σ (TrueR σ) := by
  have h := eqRecDisk [(.int .i64 n0), (.int .i64 n1), n2] σ (mkRecDisk b0 b1 b2) (by rw [sizeRecDisk]; omega)
  exact h
def c_laws_toRecDisk : C := (.seq (.ops [⟨(some 1), none, (.box (.t 0))⟩, ⟨(some 2), none, (.new [(.t (.int .i64 0)), (.t (.int .i64 0)), .nils])⟩]) (.seq (.ops [⟨(some 3), none, (.new [(.t (.int .i64 0)), (.t (.int .i64 0)), .nils])⟩]) (.seq (.ops [⟨(some 4), none, (.fieldAddr 0 (.t 1))⟩, ⟨(some 5), none, (.load none (.t 4))⟩, ⟨(some 6), none, (.fieldAddr 0 (.t 3))⟩, ⟨none, none, (.store 1 (.t 6) (.t 5))⟩]) (.seq (.ops [⟨(some 7), none, (.fieldAddr 1 (.t 1))⟩, ⟨(some 8), none, (.load none (.t 7))⟩, ⟨(some 9), none, (.fieldAddr 1 (.t 3))⟩, ⟨none, none, (.store 1 (.t 9) (.t 8))⟩]) (.seq (.ops [⟨(some 10), none, (.fieldAddr 2 (.t 1))⟩, ⟨(some 11), none, (.load none (.t 10))⟩, ⟨(some 12), none, (.call (.c (.fn (.func 23) [])) [(.t 11)])⟩, ⟨(some 13), none, (.fieldAddr 2 (.t 3))⟩, ⟨none, none, (.store 1 (.t 13) (.t 12))⟩]) (.seq (.ops [⟨(some 14), none, (.load (some 3) (.t 3))⟩, ⟨none, none, (.store 3 (.t 2) (.t 14))⟩]) .ret))))))
theorem k_laws_toRecDisk : comp Try.prog 15 (Try.f30.body.getD .skip) = some c_laws_toRecDisk := by kernel_rfl

theorem toRecDisk : ToLOk Try.prog 30 shRecDisk := by
  rintro ts σ ht h1
  obtain ⟨n0, n1, n2, rfl, b0, b1, b2⟩ := isRecDisk ht
  rw [sizeRecDisk] at h1
  refine acalls_of Try.func30 (by decide +kernel) (code := Try.f30.body.getD .skip) (n := 15) (c := c_laws_toRecDisk) (rs := [(.cell 2 (some 3))]) rfl rfl k_laws_toRecDisk (by kernel_rfl) (by simp) (fun hσ => ?_)
  simp -implicitDefEqProofs only [c_laws_toRecDisk, S0, S1, S2, S3, S4, S5, S6, S7, S8, S9, S10, S11, S12, S13, S14, S15, opv, opvs, eget, env0, setD, lenStr, lenSl, isNilP, isNilS, putAt, if_true, if_false, reduceCtorEq, Nat.reduceLeDiff, Nat.reduceEqDiff, Nat.reduceSub, Nat.reduceMul, Nat.reduceAdd]
  refine call_by (by rw [List.append_nil]; exact toRecSlotS n2 _ b2 (by omega)) ?_
  rintro u2 σ' ⟨τ2, j2, rfl, o2, w2⟩
  have e2 := o2.one
  simp -implicitDefEqProofs only [one_cells e2, e2, S0, S1, S2, S3, S4, S5, S6, S7, S8, S9, S10, S11, S12, S13, S14, S15, opv, opvs, eget, env0, setD, lenStr, lenSl, isNilP, isNilS, putAt, if_true, if_false, reduceCtorEq, Nat.reduceLeDiff, Nat.reduceEqDiff, Nat.reduceSub, Nat.reduceMul, Nat.reduceAdd]
  refine fin_keep (by simp) ⟨_, _, (j2 ++ []), rfl, rfl, (OwnL.int (OwnL.int (OwnL.lst (own_pre (A := [_, _, _]) (A' := [_, _, _]) (B := τ2) (B' := τ2) o2 w2 (List.append_assoc ..) rfl rfl (by simp) (by simp)) OwnL.nil0))), ?_⟩
  simp only [List.length_append, List.length_cons, List.length_nil] at w2 ⊢
  refine Wi.mono (a := σ.length) ?_ (Nat.le_refl _) (Nat.le_refl _)
  exact wi_last w2 (by omega) (by omega)
theorem toRecDisk_x {n0} {n1} {n2} (σ : Store) (b0 : (Lit.int .i64 n0).wf = true) (b1 : (Lit.int .i64 n1).wf = true) (b2 : T.is (.sl 2 shRecSlot) n2) (hz : n2.size ≤ 1048576) : ACalls Try.prog 30 [.agg [.t (.int .i64 n0), .t (.int .i64 n1), .t n2]] σ (ToLR [(.int .i64 n0), (.int .i64 n1), n2] σ) := by
  have h := toRecDisk [(.int .i64 n0), (.int .i64 n1), n2] σ (mkRecDisk b0 b1 b2) (by rw [sizeRecDisk]; omega)
  exact h
def shRecMessage : List Sh := [.int .i64, .int .i64, .int .i64, .int .i64, .int .i64, .int .i64, .str, .sl 2 shRecSlot]
theorem isRecMessage {ts : List T} (ht : T.isL shRecMessage ts) : ∃ n0 n1 n2 n3 n4 n5 n6 n7, ts = [(.int .i64 n0), (.int .i64 n1), (.int .i64 n2), (.int .i64 n3), (.int .i64 n4), (.int .i64 n5), (.str n6), n7] ∧ (Lit.int .i64 n0).wf = true ∧ (Lit.int .i64 n1).wf = true ∧ (Lit.int .i64 n2).wf = true ∧ (Lit.int .i64 n3).wf = true ∧ (Lit.int .i64 n4).wf = true ∧ (Lit.int .i64 n5).wf = true ∧ n6.length ≤ maxLen ∧ T.is (.sl 2 shRecSlot) n7 := by
  simp only [shRecMessage, isL_cons, isL_nil, is_int, is_bool, is_str] at ht
  obtain ⟨_, _, rfl, ⟨n0, rfl, b0⟩, _, _, rfl, ⟨n1, rfl, b1⟩, _, _, rfl, ⟨n2, rfl, b2⟩, _, _, rfl, ⟨n3, rfl, b3⟩, _, _, rfl, ⟨n4, rfl, b4⟩, _, _, rfl, ⟨n5, rfl, b5⟩, _, _, rfl, ⟨n6, rfl, b6⟩, n7, _, rfl, b7, rfl⟩ := ht
  exact ⟨_, _, _, _, _, _, _, _, rfl, b0, b1, b2, b3, b4, b5, b6, b7⟩
theorem mkRecMessage {n0} {n1} {n2} {n3} {n4} {n5} {n6} {n7} (b0 : (Lit.int .i64 n0).wf = true) (b1 : (Lit.int .i64 n1).wf = true) (b2 : (Lit.int .i64 n2).wf = true) (b3 : (Lit.int .i64 n3).wf = true) (b4 : (Lit.int .i64 n4).wf = true) (b5 : (Lit.int .i64 n5).wf = true) (b6 : n6.length ≤ maxLen) (b7 : T.is (.sl 2 shRecSlot) n7) : T.isL shRecMessage [(.int .i64 n0), (.int .i64 n1), (.int .i64 n2), (.int .i64 n3), (.int .i64 n4), (.int .i64 n5), (.str n6), n7] := by
  simp only [shRecMessage, isL_cons, isL_nil, is_int, is_bool, is_str]
  exact ⟨_, _, rfl, ⟨_, rfl, b0⟩, _, _, rfl, ⟨_, rfl, b1⟩, _, _, rfl, ⟨_, rfl, b2⟩, _, _, rfl, ⟨_, rfl, b3⟩, _, _, rfl, ⟨_, rfl, b4⟩, _, _, rfl, ⟨_, rfl, b5⟩, _, _, rfl, ⟨_, rfl, b6⟩, _, _, rfl, b7, rfl⟩
theorem sizeRecMessage {n0} {n1} {n2} {n3} {n4} {n5} {n6} {n7} : T.sizeL [(.int .i64 n0), (.int .i64 n1), (.int .i64 n2), (.int .i64 n3), (.int .i64 n4), (.int .i64 n5), (.str n6), n7] = n6.length + n7.size := by
  simp only [sizeL_cons, sizeL_nil, size_int, size_bool, size_str]
  try omega
def c_laws_szRecMessage : C := (.seq (.ops [⟨(some 2), none, (.box (.t 0))⟩, ⟨(some 4), none, (.mv (.c (.t (.int .i64 0))))⟩]) (.seq (.ops [⟨(some 5), none, (.mv (.t 1))⟩, ⟨(some 6), none, (.fieldAddr 6 (.t 2))⟩, ⟨(some 7), none, (.load none (.t 6))⟩, ⟨(some 8), none, (.len true (.t 7))⟩, ⟨(some 9), none, (.bin .sub (.t 5) (.t 8))⟩, ⟨(some 1), none, (.mv (.t 9))⟩]) (.seq (.seq (.ops [⟨(some 10), none, (.mv (.t 1))⟩, ⟨(some 11), none, (.bin .lss (.t 10) (.c (.t (.int .i64 0))))⟩]) (.cond (.t 11) (.seq (.ops [⟨(some 4), none, (.mv (.c (.t (.int .i64 (-1)))))⟩]) .ret) .skip)) (.seq (.ops [⟨(some 12), none, (.fieldAddr 7 (.t 2))⟩, ⟨(some 13), none, (.load none (.t 12))⟩, ⟨(some 14), none, (.mv (.t 1))⟩, ⟨(some 15), none, (.call (.c (.fn (.func 21) [])) [(.t 13), (.t 14)])⟩, ⟨(some 1), none, (.mv (.t 15))⟩]) (.seq (.seq (.ops [⟨(some 16), none, (.mv (.t 1))⟩, ⟨(some 17), none, (.bin .lss (.t 16) (.c (.t (.int .i64 0))))⟩]) (.cond (.t 17) (.seq (.ops [⟨(some 4), none, (.mv (.c (.t (.int .i64 (-1)))))⟩]) .ret) .skip)) (.seq (.ops [⟨(some 18), none, (.mv (.t 1))⟩, ⟨(some 4), none, (.mv (.t 18))⟩]) .ret))))))
theorem k_laws_szRecMessage : comp Try.prog 19 (Try.f33.body.getD .skip) = some c_laws_szRecMessage := by kernel_rfl

theorem szRecMessage : SzLOk Try.prog 33 shRecMessage := by
  rintro ts left σ ht h0 h1
  obtain ⟨n0, n1, n2, n3, n4, n5, n6, n7, rfl, b0, b1, b2, b3, b4, b5, b6, b7⟩ := isRecMessage ht
  refine acalls_of Try.func33 (by decide +kernel) (code := Try.f33.body.getD .skip) (n := 19) (c := c_laws_szRecMessage) (rs := [(.tmp 4)]) rfl rfl k_laws_szRecMessage (by kernel_rfl) (by simp) (fun hσ => ?_)
  try simp only [maxLen] at *
  have fin : ∀ {n : Int} {τ : Store}, n ≤ left → (0 ≤ n → ((n6.length + n7.size : Nat) : Int) + n ≤ left) → retV σ.length (SzR (T.sizeL [(.int .i64 n0), (.int .i64 n1), (.int .i64 n2), (.int .i64 n3), (.int .i64 n4), (.int .i64 n5), (.str n6), n7]) left σ) (σ ++ τ) (some [.t (.int .i64 n)]) := fun h h' => ret_same rfl hσ rfl ⟨⟨_, rfl, h, fun h0 => by have := h' h0; rw [sizeRecMessage]; exact this⟩, rfl⟩
  have w6 : IntKind.i64.wrap (left - n6.length) = left - n6.length := IntWalk.i64_in _ (by omega)
  simp -implicitDefEqProofs only [c_laws_szRecMessage, w6, S0, S1, S2, S3, S4, S5, S6, S7, S8, S9, S10, S11, S12, S13, S14, S15, opv, opvs, eget, env0, setD, lenStr, lenSl, isNilP, isNilS, putAt, if_true, if_false, reduceCtorEq, Nat.reduceLeDiff, Nat.reduceEqDiff, Nat.reduceSub, Nat.reduceMul, Nat.reduceAdd]
  refine cond_split (fun h => ?_) (fun h => ?_)
  · simp -implicitDefEqProofs only [S0, S1, S2, S3, S4, S5, S6, S7, S8, S9, S10, S11, S12, S13, S14, S15, opv, opvs, eget, env0, setD, lenStr, lenSl, isNilP, isNilS, putAt, if_true, if_false, reduceCtorEq, Nat.reduceLeDiff, Nat.reduceEqDiff, Nat.reduceSub, Nat.reduceMul, Nat.reduceAdd]
    simp only [decide_eq_true_eq] at h
    exact fin (by omega) (by omega)
  simp only [decide_eq_false_iff_not, Int.not_lt] at h
  simp -implicitDefEqProofs only [S0, S1, S2, S3, S4, S5, S6, S7, S8, S9, S10, S11, S12, S13, S14, S15, opv, opvs, eget, env0, setD, lenStr, lenSl, isNilP, isNilS, putAt, if_true, if_false, reduceCtorEq, Nat.reduceLeDiff, Nat.reduceEqDiff, Nat.reduceSub, Nat.reduceMul, Nat.reduceAdd]
  refine call_by (by rw [List.append_nil]; exact szRecSlotS n7 (left - n6.length) _ b7 (by omega) (by omega)) ?_
  rintro r σ' ⟨⟨m7, rfl, hm7, hs7⟩, rfl⟩
  try simp only [sizeRecMessage] at hs7
  simp -implicitDefEqProofs only [S0, S1, S2, S3, S4, S5, S6, S7, S8, S9, S10, S11, S12, S13, S14, S15, opv, opvs, eget, env0, setD, lenStr, lenSl, isNilP, isNilS, putAt, if_true, if_false, reduceCtorEq, Nat.reduceLeDiff, Nat.reduceEqDiff, Nat.reduceSub, Nat.reduceMul, Nat.reduceAdd]
  refine cond_split (fun h => ?_) (fun h => ?_)
  · simp -implicitDefEqProofs only [S0, S1, S2, S3, S4, S5, S6, S7, S8, S9, S10, S11, S12, S13, S14, S15, opv, opvs, eget, env0, setD, lenStr, lenSl, isNilP, isNilS, putAt, if_true, if_false, reduceCtorEq, Nat.reduceLeDiff, Nat.reduceEqDiff, Nat.reduceSub, Nat.reduceMul, Nat.reduceAdd]
    simp only [decide_eq_true_eq] at h
    exact fin (by omega) (by omega)
  simp only [decide_eq_false_iff_not, Int.not_lt] at h
  replace hs7 := hs7 h
  simp -implicitDefEqProofs only [S0, S1, S2, S3, S4, S5, S6, S7, S8, S9, S10, S11, S12, S13, S14, S15, opv, opvs, eget, env0, setD, lenStr, lenSl, isNilP, isNilS, putAt, if_true, if_false, reduceCtorEq, Nat.reduceLeDiff, Nat.reduceEqDiff, Nat.reduceSub, Nat.reduceMul, Nat.reduceAdd]
  exact fin (by omega) (fun _ => by omega)
theorem szRecMessage_x {n0} {n1} {n2} {n3} {n4} {n5} {n6} {n7} (left : Int) (σ : Store) (b0 : (Lit.int .i64 n0).wf = true) (b1 : (Lit.int .i64 n1).wf = true) (b2 : (Lit.int .i64 n2).wf = true) (b3 : (Lit.int .i64 n3).wf = true) (b4 : (Lit.int .i64 n4).wf = true) (b5 : (Lit.int .i64 n5).wf = true) (b6 : n6.length ≤ maxLen) (b7 : T.is (.sl 2 shRecSlot) n7) (h0 : 0 ≤ left) (h1 : left ≤ 1048576) : ACalls Try.prog 33 [.agg [.t (.int .i64 n0), .t (.int .i64 n1), .t (.int .i64 n2), .t (.int .i64 n3), .t (.int .i64 n4), .t (.int .i64 n5), .t (.str n6), .t n7], .t (.int .i64 left)] σ (SzR (T.sizeL [(.int .i64 n0), (.int .i64 n1), (.int .i64 n2), (.int .i64 n3), (.int .i64 n4), (.int .i64 n5), (.str n6), n7]) left σ) := by
  have h := szRecMessage [(.int .i64 n0), (.int .i64 n1), (.int .i64 n2), (.int .i64 n3), (.int .i64 n4), (.int .i64 n5), (.str n6), n7] left σ (mkRecMessage b0 b1 b2 b3 b4 b5 b6 b7) h0 h1
  exact h
def c_laws_eqRecMessage : C := (.seq (.ops [⟨(some 2), none, (.box (.t 0))⟩, ⟨(some 3), none, (.box (.t 1))⟩, ⟨(some 4), none, (.mv (.c (.t (.bool false))))⟩]) (.seq (.seq (.ops [⟨(some 5), none, (.fieldAddr 0 (.t 2))⟩, ⟨(some 6), none, (.load none (.t 5))⟩, ⟨(some 7), none, (.fieldAddr 0 (.t 3))⟩, ⟨(some 8), none, (.load none (.t 7))⟩, ⟨(some 9), none, (.bin .neq (.t 6) (.t 8))⟩]) (.cond (.t 9) (.seq (.ops [⟨(some 4), none, (.mv (.c (.t (.bool false))))⟩]) .ret) .skip)) (.seq (.seq (.ops [⟨(some 10), none, (.fieldAddr 1 (.t 2))⟩, ⟨(some 11), none, (.load none (.t 10))⟩, ⟨(some 12), none, (.fieldAddr 1 (.t 3))⟩, ⟨(some 13), none, (.load none (.t 12))⟩, ⟨(some 14), none, (.bin .neq (.t 11) (.t 13))⟩]) (.cond (.t 14) (.seq (.ops [⟨(some 4), none, (.mv (.c (.t (.bool false))))⟩]) .ret) .skip)) (.seq (.seq (.ops [⟨(some 15), none, (.fieldAddr 2 (.t 2))⟩, ⟨(some 16), none, (.load none (.t 15))⟩, ⟨(some 17), none, (.fieldAddr 2 (.t 3))⟩, ⟨(some 18), none, (.load none (.t 17))⟩, ⟨(some 19), none, (.bin .neq (.t 16) (.t 18))⟩]) (.cond (.t 19) (.seq (.ops [⟨(some 4), none, (.mv (.c (.t (.bool false))))⟩]) .ret) .skip)) (.seq (.seq (.ops [⟨(some 20), none, (.fieldAddr 3 (.t 2))⟩, ⟨(some 21), none, (.load none (.t 20))⟩, ⟨(some 22), none, (.fieldAddr 3 (.t 3))⟩, ⟨(some 23), none, (.load none (.t 22))⟩, ⟨(some 24), none, (.bin .neq (.t 21) (.t 23))⟩]) (.cond (.t 24) (.seq (.ops [⟨(some 4), none, (.mv (.c (.t (.bool false))))⟩]) .ret) .skip)) (.seq (.seq (.ops [⟨(some 25), none, (.fieldAddr 4 (.t 2))⟩, ⟨(some 26), none, (.load none (.t 25))⟩, ⟨(some 27), none, (.fieldAddr 4 (.t 3))⟩, ⟨(some 28), none, (.load none (.t 27))⟩, ⟨(some 29), none, (.bin .neq (.t 26) (.t 28))⟩]) (.cond (.t 29) (.seq (.ops [⟨(some 4), none, (.mv (.c (.t (.bool false))))⟩]) .ret) .skip)) (.seq (.seq (.ops [⟨(some 30), none, (.fieldAddr 5 (.t 2))⟩, ⟨(some 31), none, (.load none (.t 30))⟩, ⟨(some 32), none, (.fieldAddr 5 (.t 3))⟩, ⟨(some 33), none, (.load none (.t 32))⟩, ⟨(some 34), none, (.bin .neq (.t 31) (.t 33))⟩]) (.cond (.t 34) (.seq (.ops [⟨(some 4), none, (.mv (.c (.t (.bool false))))⟩]) .ret) .skip)) (.seq (.seq (.ops [⟨(some 35), none, (.fieldAddr 6 (.t 2))⟩, ⟨(some 36), none, (.load none (.t 35))⟩, ⟨(some 37), none, (.fieldAddr 6 (.t 3))⟩, ⟨(some 38), none, (.load none (.t 37))⟩, ⟨(some 39), none, (.bin .neq (.t 36) (.t 38))⟩]) (.cond (.t 39) (.seq (.ops [⟨(some 4), none, (.mv (.c (.t (.bool false))))⟩]) .ret) .skip)) (.seq (.seq (.ops [⟨(some 40), none, (.fieldAddr 7 (.t 2))⟩, ⟨(some 41), none, (.load none (.t 40))⟩, ⟨(some 42), none, (.fieldAddr 7 (.t 3))⟩, ⟨(some 43), none, (.load none (.t 42))⟩, ⟨(some 44), none, (.call (.c (.fn (.func 25) [])) [(.t 41), (.t 43)])⟩, ⟨(some 45), none, (.un .not (.t 44))⟩]) (.cond (.t 45) (.seq (.ops [⟨(some 4), none, (.mv (.c (.t (.bool false))))⟩]) .ret) .skip)) (.seq (.ops [⟨(some 4), none, (.mv (.c (.t (.bool true))))⟩]) .ret))))))))))
theorem k_laws_eqRecMessage : comp Try.prog 46 (Try.f37.body.getD .skip) = some c_laws_eqRecMessage := by kernel_rfl

theorem eqRecMessage : EqLOk Try.prog 37 shRecMessage := by
  rintro ts σ ht h1
  obtain ⟨n0, n1, n2, n3, n4, n5, n6, n7, rfl, b0, b1, b2, b3, b4, b5, b6, b7⟩ := isRecMessage ht
  rw [sizeRecMessage] at h1
  refine acalls_of Try.func37 (by decide +kernel) (code := Try.f37.body.getD .skip) (n := 46) (c := c_laws_eqRecMessage) (rs := [(.tmp 4)]) rfl rfl k_laws_eqRecMessage (by kernel_rfl) (by simp) (fun hσ => ?_)
  simp -implicitDefEqProofs only [c_laws_eqRecMessage, ne_self, beq_self_eq_true, S0, S1, S2, S3, S4, S5, S6, S7, S8, S9, S10, S11, S12, S13, S14, S15, opv, opvs, eget, env0, setD, lenStr, lenSl, isNilP, isNilS, putAt, if_true, if_false, reduceCtorEq, Nat.reduceLeDiff, Nat.reduceEqDiff, Nat.reduceSub, Nat.reduceMul, Nat.reduceAdd]
  refine call_pure (eqRecSlotS n7 _ b7 (by omega)) ?_
  simp -implicitDefEqProofs only [ne_self, beq_self_eq_true, S0, S1, S2, S3, S4, S5, S6, S7, S8, S9, S10, S11, S12, S13, S14, S15, opv, opvs, eget, env0, setD, lenStr, lenSl, isNilP, isNilS, putAt, if_true, if_false, reduceCtorEq, Nat.reduceLeDiff, Nat.reduceEqDiff, Nat.reduceSub, Nat.reduceMul, Nat.reduceAdd]
  exact ret_same rfl hσ rfl ⟨rfl, rfl⟩
theorem eqRecMessage_x {n0} {n1} {n2} {n3} {n4} {n5} {n6} {n7} (σ : Store) (b0 : (Lit.int .i64 n0).wf = true) (b1 : (Lit.int .i64 n1).wf = true) (b2 : (Lit.int .i64 n2).wf = true) (b3 : (Lit.int .i64 n3).wf = true) (b4 : (Lit.int .i64 n4).wf = true) (b5 : (Lit.int .i64 n5).wf = true) (b6 : n6.length ≤ maxLen) (b7 : T.is (.sl 2 shRecSlot) n7) (hz : n6.length + n7.size ≤ 1099511627776) : ACalls Try.prog 37 [.agg [.t (.int .i64 n0), .t (.int .i64 n1), .t (.int .i64 n2), .t (.int .i64 n3), .t (.int .i64 n4), .t (.int .i64 n5), .t (.str n6), .t n7], .agg [.t (.int .i64 n0), .t (.int .i64 n1), .t (.int .i64 n2), .t (.int .i64 n3), .t (.int .i64 n4), .t (.int .i64 n5), .t (.str n6), .t n7]] σ (TrueR σ) := by
  have h := eqRecMessage [(.int .i64 n0), (.int .i64 n1), (.int .i64 n2), (.int .i64 n3), (.int .i64 n4), (.int .i64 n5), (.str n6), n7] σ (mkRecMessage b0 b1 b2 b3 b4 b5 b6 b7) (by rw [sizeRecMessage]; omega)
  exact h
def c_laws_toRecMessage : C := (.seq (.ops [⟨(some 1), none, (.box (.t 0))⟩, ⟨(some 2), none, (.new [(.t (.int .i64 0)), (.t (.int .i64 0)), (.t (.int .i64 0)), (.t (.int .i64 0)), (.t (.int .i64 0)), (.t (.int .i64 0)), (.t (.str [])), .nils])⟩]) (.seq (.ops [⟨(some 3), none, (.new [(.t (.int .i64 0)), (.t (.int .i64 0)), (.t (.int .i64 0)), (.t (.int .i64 0)), (.t (.int .i64 0)), (.t (.int .i64 0)), (.t (.str [])), .nils])⟩]) (.seq (.ops [⟨(some 4), none, (.fieldAddr 0 (.t 1))⟩, ⟨(some 5), none, (.load none (.t 4))⟩, ⟨(some 6), none, (.fieldAddr 0 (.t 3))⟩, ⟨none, none, (.store 1 (.t 6) (.t 5))⟩]) (.seq (.ops [⟨(some 7), none, (.fieldAddr 1 (.t 1))⟩, ⟨(some 8), none, (.load none (.t 7))⟩, ⟨(some 9), none, (.fieldAddr 1 (.t 3))⟩, ⟨none, none, (.store 1 (.t 9) (.t 8))⟩]) (.seq (.ops [⟨(some 10), none, (.fieldAddr 2 (.t 1))⟩, ⟨(some 11), none, (.load none (.t 10))⟩, ⟨(some 12), none, (.fieldAddr 2 (.t 3))⟩, ⟨none, none, (.store 1 (.t 12) (.t 11))⟩]) (.seq (.ops [⟨(some 13), none, (.fieldAddr 3 (.t 1))⟩, ⟨(some 14), none, (.load none (.t 13))⟩, ⟨(some 15), none, (.fieldAddr 3 (.t 3))⟩, ⟨none, none, (.store 1 (.t 15) (.t 14))⟩]) (.seq (.ops [⟨(some 16), none, (.fieldAddr 4 (.t 1))⟩, ⟨(some 17), none, (.load none (.t 16))⟩, ⟨(some 18), none, (.fieldAddr 4 (.t 3))⟩, ⟨none, none, (.store 1 (.t 18) (.t 17))⟩]) (.seq (.ops [⟨(some 19), none, (.fieldAddr 5 (.t 1))⟩, ⟨(some 20), none, (.load none (.t 19))⟩, ⟨(some 21), none, (.fieldAddr 5 (.t 3))⟩, ⟨none, none, (.store 1 (.t 21) (.t 20))⟩]) (.seq (.ops [⟨(some 22), none, (.fieldAddr 6 (.t 1))⟩, ⟨(some 23), none, (.load none (.t 22))⟩, ⟨(some 24), none, (.fieldAddr 6 (.t 3))⟩, ⟨none, none, (.store 1 (.t 24) (.t 23))⟩]) (.seq (.ops [⟨(some 25), none, (.fieldAddr 7 (.t 1))⟩, ⟨(some 26), none, (.load none (.t 25))⟩, ⟨(some 27), none, (.call (.c (.fn (.func 23) [])) [(.t 26)])⟩, ⟨(some 28), none, (.fieldAddr 7 (.t 3))⟩, ⟨none, none, (.store 1 (.t 28) (.t 27))⟩]) (.seq (.ops [⟨(some 29), none, (.load (some 8) (.t 3))⟩, ⟨none, none, (.store 8 (.t 2) (.t 29))⟩]) .ret)))))))))))
theorem k_laws_toRecMessage : comp Try.prog 30 (Try.f35.body.getD .skip) = some c_laws_toRecMessage := by kernel_rfl

theorem toRecMessage : ToLOk Try.prog 35 shRecMessage := by
  rintro ts σ ht h1
  obtain ⟨n0, n1, n2, n3, n4, n5, n6, n7, rfl, b0, b1, b2, b3, b4, b5, b6, b7⟩ := isRecMessage ht
  rw [sizeRecMessage] at h1
  refine acalls_of Try.func35 (by decide +kernel) (code := Try.f35.body.getD .skip) (n := 30) (c := c_laws_toRecMessage) (rs := [(.cell 2 (some 8))]) rfl rfl k_laws_toRecMessage (by kernel_rfl) (by simp) (fun hσ => ?_)
  simp -implicitDefEqProofs only [c_laws_toRecMessage, S0, S1, S2, S3, S4, S5, S6, S7, S8, S9, S10, S11, S12, S13, S14, S15, opv, opvs, eget, env0, setD, lenStr, lenSl, isNilP, isNilS, putAt, if_true, if_false, reduceCtorEq, Nat.reduceLeDiff, Nat.reduceEqDiff, Nat.reduceSub, Nat.reduceMul, Nat.reduceAdd]
  refine call_by (by rw [List.append_nil]; exact toRecSlotS n7 _ b7 (by omega)) ?_
  rintro u7 σ' ⟨τ7, j7, rfl, o7, w7⟩
  have e7 := o7.one
  simp -implicitDefEqProofs only [one_cells e7, e7, S0, S1, S2, S3, S4, S5, S6, S7, S8, S9, S10, S11, S12, S13, S14, S15, opv, opvs, eget, env0, setD, lenStr, lenSl, isNilP, isNilS, putAt, if_true, if_false, reduceCtorEq, Nat.reduceLeDiff, Nat.reduceEqDiff, Nat.reduceSub, Nat.reduceMul, Nat.reduceAdd]
  refine fin_keep (by simp) ⟨_, _, (j7 ++ []), rfl, rfl, (OwnL.int (OwnL.int (OwnL.int (OwnL.int (OwnL.int (OwnL.int (OwnL.str (OwnL.lst (own_pre (A := [_, _, _]) (A' := [_, _, _]) (B := τ7) (B' := τ7) o7 w7 (List.append_assoc ..) rfl rfl (by simp) (by simp)) OwnL.nil0)))))))), ?_⟩
  simp only [List.length_append, List.length_cons, List.length_nil] at w7 ⊢
  refine Wi.mono (a := σ.length) ?_ (Nat.le_refl _) (Nat.le_refl _)
  exact wi_last w7 (by omega) (by omega)
theorem toRecMessage_x {n0} {n1} {n2} {n3} {n4} {n5} {n6} {n7} (σ : Store) (b0 : (Lit.int .i64 n0).wf = true) (b1 : (Lit.int .i64 n1).wf = true) (b2 : (Lit.int .i64 n2).wf = true) (b3 : (Lit.int .i64 n3).wf = true) (b4 : (Lit.int .i64 n4).wf = true) (b5 : (Lit.int .i64 n5).wf = true) (b6 : n6.length ≤ maxLen) (b7 : T.is (.sl 2 shRecSlot) n7) (hz : n6.length + n7.size ≤ 1048576) : ACalls Try.prog 35 [.agg [.t (.int .i64 n0), .t (.int .i64 n1), .t (.int .i64 n2), .t (.int .i64 n3), .t (.int .i64 n4), .t (.int .i64 n5), .t (.str n6), .t n7]] σ (ToLR [(.int .i64 n0), (.int .i64 n1), (.int .i64 n2), (.int .i64 n3), (.int .i64 n4), (.int .i64 n5), (.str n6), n7] σ) := by
  have h := toRecMessage [(.int .i64 n0), (.int .i64 n1), (.int .i64 n2), (.int .i64 n3), (.int .i64 n4), (.int .i64 n5), (.str n6), n7] σ (mkRecMessage b0 b1 b2 b3 b4 b5 b6 b7) (by rw [sizeRecMessage]; omega)
  exact h
theorem i_szRecMessageS : Is Try.prog 99 27 [(.tmp 4)] (tSzS 8 33) := ⟨_, _, Try.func99, by decide +kernel, rfl, rfl, by kernel_rfl, rfl⟩
theorem szRecMessageS : SzOk Try.prog 99 (.sl 8 shRecMessage) := szS_ok rfl i_szRecMessageS szRecMessage
theorem i_eqRecMessageS : Is Try.prog 88 27 [(.tmp 4)] (tEqS 8 37) := ⟨_, _, Try.func88, by decide +kernel, rfl, rfl, by kernel_rfl, rfl⟩
theorem eqRecMessageS : EqOk Try.prog 88 (.sl 8 shRecMessage) := eqS_ok rfl i_eqRecMessageS eqRecMessage
theorem i_toRecMessageS : Is Try.prog 107 23 [(.tmp 2)] (tToS 8 88 35 [.t (.int .i64 0), .t (.int .i64 0), .t (.int .i64 0), .t (.int .i64 0), .t (.int .i64 0), .t (.int .i64 0), .t (.str []), .nils]) := ⟨_, _, Try.func107, by decide +kernel, rfl, rfl, by kernel_rfl, rfl⟩
theorem toRecMessageS : ToOk Try.prog 107 (.sl 8 shRecMessage) := toS_ok 88 [.t (.int .i64 0), .t (.int .i64 0), .t (.int .i64 0), .t (.int .i64 0), .t (.int .i64 0), .t (.int .i64 0), .t (.str []), .nils] rfl (by decide) rfl (by decide) i_toRecMessageS toRecMessage
def shRecAck : List Sh := [.int .i64, .sl 1 [.int .i64]]
theorem isRecAck {ts : List T} (ht : T.isL shRecAck ts) : ∃ n0 n1, ts = [(.int .i64 n0), n1] ∧ (Lit.int .i64 n0).wf = true ∧ T.is (.sl 1 [.int .i64]) n1 := by
  simp only [shRecAck, isL_cons, isL_nil, is_int, is_bool, is_str] at ht
  obtain ⟨_, _, rfl, ⟨n0, rfl, b0⟩, n1, _, rfl, b1, rfl⟩ := ht
  exact ⟨_, _, rfl, b0, b1⟩
theorem mkRecAck {n0} {n1} (b0 : (Lit.int .i64 n0).wf = true) (b1 : T.is (.sl 1 [.int .i64]) n1) : T.isL shRecAck [(.int .i64 n0), n1] := by
  simp only [shRecAck, isL_cons, isL_nil, is_int, is_bool, is_str]
  exact ⟨_, _, rfl, ⟨_, rfl, b0⟩, _, _, rfl, b1, rfl⟩
theorem sizeRecAck {n0} {n1} : T.sizeL [(.int .i64 n0), n1] = n1.size := by
  simp only [sizeL_cons, sizeL_nil, size_int, size_bool, size_str]
  try omega
def c_laws_szRecAck : C := (.seq (.ops [⟨(some 2), none, (.box (.t 0))⟩, ⟨(some 4), none, (.mv (.c (.t (.int .i64 0))))⟩]) (.seq (.ops [⟨(some 5), none, (.fieldAddr 1 (.t 2))⟩, ⟨(some 6), none, (.load none (.t 5))⟩, ⟨(some 7), none, (.mv (.t 1))⟩, ⟨(some 8), none, (.call (.c (.fn (.func 101) [])) [(.t 6), (.t 7)])⟩, ⟨(some 1), none, (.mv (.t 8))⟩]) (.seq (.seq (.ops [⟨(some 9), none, (.mv (.t 1))⟩, ⟨(some 10), none, (.bin .lss (.t 9) (.c (.t (.int .i64 0))))⟩]) (.cond (.t 10) (.seq (.ops [⟨(some 4), none, (.mv (.c (.t (.int .i64 (-1)))))⟩]) .ret) .skip)) (.seq (.ops [⟨(some 11), none, (.mv (.t 1))⟩, ⟨(some 4), none, (.mv (.t 11))⟩]) .ret))))
theorem k_laws_szRecAck : comp Try.prog 12 (Try.f147.body.getD .skip) = some c_laws_szRecAck := by kernel_rfl

theorem szRecAck : SzLOk Try.prog 147 shRecAck := by
  rintro ts left σ ht h0 h1
  obtain ⟨n0, n1, rfl, b0, b1⟩ := isRecAck ht
  refine acalls_of Try.func147 (by decide +kernel) (code := Try.f147.body.getD .skip) (n := 12) (c := c_laws_szRecAck) (rs := [(.tmp 4)]) rfl rfl k_laws_szRecAck (by kernel_rfl) (by simp) (fun hσ => ?_)
  try simp only [maxLen] at *
  have fin : ∀ {n : Int} {τ : Store}, n ≤ left → (0 ≤ n → ((n1.size : Nat) : Int) + n ≤ left) → retV σ.length (SzR (T.sizeL [(.int .i64 n0), n1]) left σ) (σ ++ τ) (some [.t (.int .i64 n)]) := fun h h' => ret_same rfl hσ rfl ⟨⟨_, rfl, h, fun h0 => by have := h' h0; rw [sizeRecAck]; exact this⟩, rfl⟩
  simp -implicitDefEqProofs only [c_laws_szRecAck, S0, S1, S2, S3, S4, S5, S6, S7, S8, S9, S10, S11, S12, S13, S14, S15, opv, opvs, eget, env0, setD, lenStr, lenSl, isNilP, isNilS, putAt, if_true, if_false, reduceCtorEq, Nat.reduceLeDiff, Nat.reduceEqDiff, Nat.reduceSub, Nat.reduceMul, Nat.reduceAdd]
  refine call_by (by rw [List.append_nil]; exact szIntS n1 left _ b1 (by omega) (by omega)) ?_
  rintro r σ' ⟨⟨m1, rfl, hm1, hs1⟩, rfl⟩
  try simp only [sizeRecAck] at hs1
  simp -implicitDefEqProofs only [S0, S1, S2, S3, S4, S5, S6, S7, S8, S9, S10, S11, S12, S13, S14, S15, opv, opvs, eget, env0, setD, lenStr, lenSl, isNilP, isNilS, putAt, if_true, if_false, reduceCtorEq, Nat.reduceLeDiff, Nat.reduceEqDiff, Nat.reduceSub, Nat.reduceMul, Nat.reduceAdd]
  refine cond_split (fun h => ?_) (fun h => ?_)
  · simp -implicitDefEqProofs only [S0, S1, S2, S3, S4, S5, S6, S7, S8, S9, S10, S11, S12, S13, S14, S15, opv, opvs, eget, env0, setD, lenStr, lenSl, isNilP, isNilS, putAt, if_true, if_false, reduceCtorEq, Nat.reduceLeDiff, Nat.reduceEqDiff, Nat.reduceSub, Nat.reduceMul, Nat.reduceAdd]
    simp only [decide_eq_true_eq] at h
    exact fin (by omega) (by omega)
  simp only [decide_eq_false_iff_not, Int.not_lt] at h
  replace hs1 := hs1 h
  simp -implicitDefEqProofs only [S0, S1, S2, S3, S4, S5, S6, S7, S8, S9, S10, S11, S12, S13, S14, S15, opv, opvs, eget, env0, setD, lenStr, lenSl, isNilP, isNilS, putAt, if_true, if_false, reduceCtorEq, Nat.reduceLeDiff, Nat.reduceEqDiff, Nat.reduceSub, Nat.reduceMul, Nat.reduceAdd]
  exact fin (by omega) (fun _ => by omega)
theorem szRecAck_x {n0} {n1} (left : Int) (σ : Store) (b0 : (Lit.int .i64 n0).wf = true) (b1 : T.is (.sl 1 [.int .i64]) n1) (h0 : 0 ≤ left) (h1 : left ≤ 1048576) : ACalls Try.prog 147 [.agg [.t (.int .i64 n0), .t n1], .t (.int .i64 left)] σ (SzR (T.sizeL [(.int .i64 n0), n1]) left σ) := by
  have h := szRecAck [(.int .i64 n0), n1] left σ (mkRecAck b0 b1) h0 h1
  exact h
def c_laws_eqRecAck : C := (.seq (.ops [⟨(some 2), none, (.box (.t 0))⟩, ⟨(some 3), none, (.box (.t 1))⟩, ⟨(some 4), none, (.mv (.c (.t (.bool false))))⟩]) (.seq (.seq (.ops [⟨(some 5), none, (.fieldAddr 0 (.t 2))⟩, ⟨(some 6), none, (.load none (.t 5))⟩, ⟨(some 7), none, (.fieldAddr 0 (.t 3))⟩, ⟨(some 8), none, (.load none (.t 7))⟩, ⟨(some 9), none, (.bin .neq (.t 6) (.t 8))⟩]) (.cond (.t 9) (.seq (.ops [⟨(some 4), none, (.mv (.c (.t (.bool false))))⟩]) .ret) .skip)) (.seq (.seq (.ops [⟨(some 10), none, (.fieldAddr 1 (.t 2))⟩, ⟨(some 11), none, (.load none (.t 10))⟩, ⟨(some 12), none, (.fieldAddr 1 (.t 3))⟩, ⟨(some 13), none, (.load none (.t 12))⟩, ⟨(some 14), none, (.call (.c (.fn (.func 89) [])) [(.t 11), (.t 13)])⟩, ⟨(some 15), none, (.un .not (.t 14))⟩]) (.cond (.t 15) (.seq (.ops [⟨(some 4), none, (.mv (.c (.t (.bool false))))⟩]) .ret) .skip)) (.seq (.ops [⟨(some 4), none, (.mv (.c (.t (.bool true))))⟩]) .ret))))
theorem k_laws_eqRecAck : comp Try.prog 16 (Try.f146.body.getD .skip) = some c_laws_eqRecAck := by kernel_rfl

theorem eqRecAck : EqLOk Try.prog 146 shRecAck := by
  rintro ts σ ht h1
  obtain ⟨n0, n1, rfl, b0, b1⟩ := isRecAck ht
  rw [sizeRecAck] at h1
  refine acalls_of Try.func146 (by decide +kernel) (code := Try.f146.body.getD .skip) (n := 16) (c := c_laws_eqRecAck) (rs := [(.tmp 4)]) rfl rfl k_laws_eqRecAck (by kernel_rfl) (by simp) (fun hσ => ?_)
  simp -implicitDefEqProofs only [c_laws_eqRecAck, ne_self, beq_self_eq_true, S0, S1, S2, S3, S4, S5, S6, S7, S8, S9, S10, S11, S12, S13, S14, S15, opv, opvs, eget, env0, setD, lenStr, lenSl, isNilP, isNilS, putAt, if_true, if_false, reduceCtorEq, Nat.reduceLeDiff, Nat.reduceEqDiff, Nat.reduceSub, Nat.reduceMul, Nat.reduceAdd]
  refine call_pure (eqIntS n1 _ b1 (by omega)) ?_
  simp -implicitDefEqProofs only [ne_self, beq_self_eq_true, S0, S1, S2, S3, S4, S5, S6, S7, S8, S9, S10, S11, S12, S13, S14, S15, opv, opvs, eget, env0, setD, lenStr, lenSl, isNilP, isNilS, putAt, if_true, if_false, reduceCtorEq, Nat.reduceLeDiff, Nat.reduceEqDiff, Nat.reduceSub, Nat.reduceMul, Nat.reduceAdd]
  exact ret_same rfl hσ rfl ⟨rfl, rfl⟩
theorem eqRecAck_x {n0} {n1} (σ : Store) (b0 : (Lit.int .i64 n0).wf = true) (b1 : T.is (.sl 1 [.int .i64]) n1) (hz : n1.size ≤ 1099511627776) : ACalls Try.prog 146 [.agg [.t (.int .i64 n0), .t n1], .agg [.t (.int .i64 n0), .t n1]] σ (TrueR σ) := by
  have h := eqRecAck [(.int .i64 n0), n1] σ (mkRecAck b0 b1) (by rw [sizeRecAck]; omega)
  exact h
def c_laws_toRecAck : C := (.seq (.ops [⟨(some 1), none, (.box (.t 0))⟩, ⟨(some 2), none, (.new [(.t (.int .i64 0)), .nils])⟩]) (.seq (.ops [⟨(some 3), none, (.new [(.t (.int .i64 0)), .nils])⟩]) (.seq (.ops [⟨(some 4), none, (.fieldAddr 0 (.t 1))⟩, ⟨(some 5), none, (.load none (.t 4))⟩, ⟨(some 6), none, (.fieldAddr 0 (.t 3))⟩, ⟨none, none, (.store 1 (.t 6) (.t 5))⟩]) (.seq (.ops [⟨(some 7), none, (.fieldAddr 1 (.t 1))⟩, ⟨(some 8), none, (.load none (.t 7))⟩, ⟨(some 9), none, (.call (.c (.fn (.func 109) [])) [(.t 8)])⟩, ⟨(some 10), none, (.fieldAddr 1 (.t 3))⟩, ⟨none, none, (.store 1 (.t 10) (.t 9))⟩]) (.seq (.ops [⟨(some 11), none, (.load (some 2) (.t 3))⟩, ⟨none, none, (.store 2 (.t 2) (.t 11))⟩]) .ret)))))
theorem k_laws_toRecAck : comp Try.prog 12 (Try.f148.body.getD .skip) = some c_laws_toRecAck := by kernel_rfl

theorem toRecAck : ToLOk Try.prog 148 shRecAck := by
  rintro ts σ ht h1
  obtain ⟨n0, n1, rfl, b0, b1⟩ := isRecAck ht
  rw [sizeRecAck] at h1
  refine acalls_of Try.func148 (by decide +kernel) (code := Try.f148.body.getD .skip) (n := 12) (c := c_laws_toRecAck) (rs := [(.cell 2 (some 2))]) rfl rfl k_laws_toRecAck (by kernel_rfl) (by simp) (fun hσ => ?_)
  simp -implicitDefEqProofs only [c_laws_toRecAck, S0, S1, S2, S3, S4, S5, S6, S7, S8, S9, S10, S11, S12, S13, S14, S15, opv, opvs, eget, env0, setD, lenStr, lenSl, isNilP, isNilS, putAt, if_true, if_false, reduceCtorEq, Nat.reduceLeDiff, Nat.reduceEqDiff, Nat.reduceSub, Nat.reduceMul, Nat.reduceAdd]
  refine call_by (by rw [List.append_nil]; exact toIntS n1 _ b1 (by omega)) ?_
  rintro u1 σ' ⟨τ1, j1, rfl, o1, w1⟩
  have e1 := o1.one
  simp -implicitDefEqProofs only [one_cells e1, e1, S0, S1, S2, S3, S4, S5, S6, S7, S8, S9, S10, S11, S12, S13, S14, S15, opv, opvs, eget, env0, setD, lenStr, lenSl, isNilP, isNilS, putAt, if_true, if_false, reduceCtorEq, Nat.reduceLeDiff, Nat.reduceEqDiff, Nat.reduceSub, Nat.reduceMul, Nat.reduceAdd]
  refine fin_keep (by simp) ⟨_, _, (j1 ++ []), rfl, rfl, (OwnL.int (OwnL.lst (own_pre (A := [_, _, _]) (A' := [_, _, _]) (B := τ1) (B' := τ1) o1 w1 (List.append_assoc ..) rfl rfl (by simp) (by simp)) OwnL.nil0)), ?_⟩
  simp only [List.length_append, List.length_cons, List.length_nil] at w1 ⊢
  refine Wi.mono (a := σ.length) ?_ (Nat.le_refl _) (Nat.le_refl _)
  exact wi_last w1 (by omega) (by omega)
theorem toRecAck_x {n0} {n1} (σ : Store) (b0 : (Lit.int .i64 n0).wf = true) (b1 : T.is (.sl 1 [.int .i64]) n1) (hz : n1.size ≤ 1048576) : ACalls Try.prog 148 [.agg [.t (.int .i64 n0), .t n1]] σ (ToLR [(.int .i64 n0), n1] σ) := by
  have h := toRecAck [(.int .i64 n0), n1] σ (mkRecAck b0 b1) (by rw [sizeRecAck]; omega)
  exact h
theorem i_szRecAckS : Is Try.prog 102 27 [(.tmp 4)] (tSzS 2 147) := ⟨_, _, Try.func102, by decide +kernel, rfl, rfl, by kernel_rfl, rfl⟩
theorem szRecAckS : SzOk Try.prog 102 (.sl 2 shRecAck) := szS_ok rfl i_szRecAckS szRecAck
theorem i_eqRecAckS : Is Try.prog 90 27 [(.tmp 4)] (tEqS 2 146) := ⟨_, _, Try.func90, by decide +kernel, rfl, rfl, by kernel_rfl, rfl⟩
theorem eqRecAckS : EqOk Try.prog 90 (.sl 2 shRecAck) := eqS_ok rfl i_eqRecAckS eqRecAck
theorem i_toRecAckS : Is Try.prog 110 23 [(.tmp 2)] (tToS 2 32 148 [.t (.int .i64 0), .nils]) := ⟨_, _, Try.func110, by decide +kernel, rfl, rfl, by kernel_rfl, rfl⟩
theorem toRecAckS : ToOk Try.prog 110 (.sl 2 shRecAck) := toS_ok 32 [.t (.int .i64 0), .nils] rfl (by decide) rfl (by decide) i_toRecAckS toRecAck
def shRecFix : List Sh := [.int .i64, .str]
theorem isRecFix {ts : List T} (ht : T.isL shRecFix ts) : ∃ n0 n1, ts = [(.int .i64 n0), (.str n1)] ∧ (Lit.int .i64 n0).wf = true ∧ n1.length ≤ maxLen := by
  simp only [shRecFix, isL_cons, isL_nil, is_int, is_bool, is_str] at ht
  obtain ⟨_, _, rfl, ⟨n0, rfl, b0⟩, _, _, rfl, ⟨n1, rfl, b1⟩, rfl⟩ := ht
  exact ⟨_, _, rfl, b0, b1⟩
theorem mkRecFix {n0} {n1} (b0 : (Lit.int .i64 n0).wf = true) (b1 : n1.length ≤ maxLen) : T.isL shRecFix [(.int .i64 n0), (.str n1)] := by
  simp only [shRecFix, isL_cons, isL_nil, is_int, is_bool, is_str]
  exact ⟨_, _, rfl, ⟨_, rfl, b0⟩, _, _, rfl, ⟨_, rfl, b1⟩, rfl⟩
theorem sizeRecFix {n0} {n1} : T.sizeL [(.int .i64 n0), (.str n1)] = n1.length := by
  simp only [sizeL_cons, sizeL_nil, size_int, size_bool, size_str]
  try omega
def c_laws_szRecFix : C := (.seq (.ops [⟨(some 2), none, (.box (.t 0))⟩, ⟨(some 4), none, (.mv (.c (.t (.int .i64 0))))⟩]) (.seq (.ops [⟨(some 5), none, (.mv (.t 1))⟩, ⟨(some 6), none, (.fieldAddr 1 (.t 2))⟩, ⟨(some 7), none, (.load none (.t 6))⟩, ⟨(some 8), none, (.len true (.t 7))⟩, ⟨(some 9), none, (.bin .sub (.t 5) (.t 8))⟩, ⟨(some 1), none, (.mv (.t 9))⟩]) (.seq (.seq (.ops [⟨(some 10), none, (.mv (.t 1))⟩, ⟨(some 11), none, (.bin .lss (.t 10) (.c (.t (.int .i64 0))))⟩]) (.cond (.t 11) (.seq (.ops [⟨(some 4), none, (.mv (.c (.t (.int .i64 (-1)))))⟩]) .ret) .skip)) (.seq (.ops [⟨(some 12), none, (.mv (.t 1))⟩, ⟨(some 4), none, (.mv (.t 12))⟩]) .ret))))
theorem k_laws_szRecFix : comp Try.prog 13 (Try.f151.body.getD .skip) = some c_laws_szRecFix := by kernel_rfl

theorem szRecFix : SzLOk Try.prog 151 shRecFix := by
  rintro ts left σ ht h0 h1
  obtain ⟨n0, n1, rfl, b0, b1⟩ := isRecFix ht
  refine acalls_of Try.func151 (by decide +kernel) (code := Try.f151.body.getD .skip) (n := 13) (c := c_laws_szRecFix) (rs := [(.tmp 4)]) rfl rfl k_laws_szRecFix (by kernel_rfl) (by simp) (fun hσ => ?_)
  try simp only [maxLen] at *
  have fin : ∀ {n : Int} {τ : Store}, n ≤ left → (0 ≤ n → ((n1.length : Nat) : Int) + n ≤ left) → retV σ.length (SzR (T.sizeL [(.int .i64 n0), (.str n1)]) left σ) (σ ++ τ) (some [.t (.int .i64 n)]) := fun h h' => ret_same rfl hσ rfl ⟨⟨_, rfl, h, fun h0 => by have := h' h0; rw [sizeRecFix]; exact this⟩, rfl⟩
  have w1 : IntKind.i64.wrap (left - n1.length) = left - n1.length := IntWalk.i64_in _ (by omega)
  simp -implicitDefEqProofs only [c_laws_szRecFix, w1, S0, S1, S2, S3, S4, S5, S6, S7, S8, S9, S10, S11, S12, S13, S14, S15, opv, opvs, eget, env0, setD, lenStr, lenSl, isNilP, isNilS, putAt, if_true, if_false, reduceCtorEq, Nat.reduceLeDiff, Nat.reduceEqDiff, Nat.reduceSub, Nat.reduceMul, Nat.reduceAdd]
  refine cond_split (fun h => ?_) (fun h => ?_)
  · simp -implicitDefEqProofs only [S0, S1, S2, S3, S4, S5, S6, S7, S8, S9, S10, S11, S12, S13, S14, S15, opv, opvs, eget, env0, setD, lenStr, lenSl, isNilP, isNilS, putAt, if_true, if_false, reduceCtorEq, Nat.reduceLeDiff, Nat.reduceEqDiff, Nat.reduceSub, Nat.reduceMul, Nat.reduceAdd]
    simp only [decide_eq_true_eq] at h
    exact fin (by omega) (by omega)
  simp only [decide_eq_false_iff_not, Int.not_lt] at h
  simp -implicitDefEqProofs only [S0, S1, S2, S3, S4, S5, S6, S7, S8, S9, S10, S11, S12, S13, S14, S15, opv, opvs, eget, env0, setD, lenStr, lenSl, isNilP, isNilS, putAt, if_true, if_false, reduceCtorEq, Nat.reduceLeDiff, Nat.reduceEqDiff, Nat.reduceSub, Nat.reduceMul, Nat.reduceAdd]
  exact fin (by omega) (fun _ => by omega)
theorem szRecFix_x {n0} {n1} (left : Int) (σ : Store) (b0 : (Lit.int .i64 n0).wf = true) (b1 : n1.length ≤ maxLen) (h0 : 0 ≤ left) (h1 : left ≤ 1048576) : ACalls Try.prog 151 [.agg [.t (.int .i64 n0), .t (.str n1)], .t (.int .i64 left)] σ (SzR (T.sizeL [(.int .i64 n0), (.str n1)]) left σ) := by
  have h := szRecFix [(.int .i64 n0), (.str n1)] left σ (mkRecFix b0 b1) h0 h1
  exact h
def c_laws_eqRecFix : C := (.seq (.ops [⟨(some 2), none, (.box (.t 0))⟩, ⟨(some 3), none, (.box (.t 1))⟩, ⟨(some 4), none, (.mv (.c (.t (.bool false))))⟩]) (.seq (.seq (.ops [⟨(some 5), none, (.fieldAddr 0 (.t 2))⟩, ⟨(some 6), none, (.load none (.t 5))⟩, ⟨(some 7), none, (.fieldAddr 0 (.t 3))⟩, ⟨(some 8), none, (.load none (.t 7))⟩, ⟨(some 9), none, (.bin .neq (.t 6) (.t 8))⟩]) (.cond (.t 9) (.seq (.ops [⟨(some 4), none, (.mv (.c (.t (.bool false))))⟩]) .ret) .skip)) (.seq (.seq (.ops [⟨(some 10), none, (.fieldAddr 1 (.t 2))⟩, ⟨(some 11), none, (.load none (.t 10))⟩, ⟨(some 12), none, (.fieldAddr 1 (.t 3))⟩, ⟨(some 13), none, (.load none (.t 12))⟩, ⟨(some 14), none, (.bin .neq (.t 11) (.t 13))⟩]) (.cond (.t 14) (.seq (.ops [⟨(some 4), none, (.mv (.c (.t (.bool false))))⟩]) .ret) .skip)) (.seq (.ops [⟨(some 4), none, (.mv (.c (.t (.bool true))))⟩]) .ret))))
theorem k_laws_eqRecFix : comp Try.prog 15 (Try.f150.body.getD .skip) = some c_laws_eqRecFix := by kernel_rfl

theorem eqRecFix : EqLOk Try.prog 150 shRecFix := by
  rintro ts σ ht h1
  obtain ⟨n0, n1, rfl, b0, b1⟩ := isRecFix ht
  rw [sizeRecFix] at h1
  refine acalls_of Try.func150 (by decide +kernel) (code := Try.f150.body.getD .skip) (n := 15) (c := c_laws_eqRecFix) (rs := [(.tmp 4)]) rfl rfl k_laws_eqRecFix (by kernel_rfl) (by simp) (fun hσ => ?_)
  simp -implicitDefEqProofs only [c_laws_eqRecFix, ne_self, beq_self_eq_true, S0, S1, S2, S3, S4, S5, S6, S7, S8, S9, S10, S11, S12, S13, S14, S15, opv, opvs, eget, env0, setD, lenStr, lenSl, isNilP, isNilS, putAt, if_true, if_false, reduceCtorEq, Nat.reduceLeDiff, Nat.reduceEqDiff, Nat.reduceSub, Nat.reduceMul, Nat.reduceAdd]
  exact ret_same rfl hσ rfl ⟨rfl, rfl⟩
theorem eqRecFix_x {n0} {n1} (σ : Store) (b0 : (Lit.int .i64 n0).wf = true) (b1 : n1.length ≤ maxLen) (hz : n1.length ≤ 1099511627776) : ACalls Try.prog 150 [.agg [.t (.int .i64 n0), .t (.str n1)], .agg [.t (.int .i64 n0), .t (.str n1)]] σ (TrueR σ) := by
  have h := eqRecFix [(.int .i64 n0), (.str n1)] σ (mkRecFix b0 b1) (by rw [sizeRecFix]; omega)
  exact h
def c_laws_toRecFix : C := (.seq (.ops [⟨(some 1), none, (.box (.t 0))⟩, ⟨(some 2), none, (.new [(.t (.int .i64 0)), (.t (.str []))])⟩]) (.seq (.ops [⟨(some 3), none, (.new [(.t (.int .i64 0)), (.t (.str []))])⟩]) (.seq (.ops [⟨(some 4), none, (.fieldAddr 0 (.t 1))⟩, ⟨(some 5), none, (.load none (.t 4))⟩, ⟨(some 6), none, (.fieldAddr 0 (.t 3))⟩, ⟨none, none, (.store 1 (.t 6) (.t 5))⟩]) (.seq (.ops [⟨(some 7), none, (.fieldAddr 1 (.t 1))⟩, ⟨(some 8), none, (.load none (.t 7))⟩, ⟨(some 9), none, (.fieldAddr 1 (.t 3))⟩, ⟨none, none, (.store 1 (.t 9) (.t 8))⟩]) (.seq (.ops [⟨(some 10), none, (.load (some 2) (.t 3))⟩, ⟨none, none, (.store 2 (.t 2) (.t 10))⟩]) .ret)))))
theorem k_laws_toRecFix : comp Try.prog 11 (Try.f152.body.getD .skip) = some c_laws_toRecFix := by kernel_rfl

theorem toRecFix : ToLOk Try.prog 152 shRecFix := by
  rintro ts σ ht h1
  obtain ⟨n0, n1, rfl, b0, b1⟩ := isRecFix ht
  rw [sizeRecFix] at h1
  refine acalls_of Try.func152 (by decide +kernel) (code := Try.f152.body.getD .skip) (n := 11) (c := c_laws_toRecFix) (rs := [(.cell 2 (some 2))]) rfl rfl k_laws_toRecFix (by kernel_rfl) (by simp) (fun hσ => ?_)
  simp -implicitDefEqProofs only [c_laws_toRecFix, S0, S1, S2, S3, S4, S5, S6, S7, S8, S9, S10, S11, S12, S13, S14, S15, opv, opvs, eget, env0, setD, lenStr, lenSl, isNilP, isNilS, putAt, if_true, if_false, reduceCtorEq, Nat.reduceLeDiff, Nat.reduceEqDiff, Nat.reduceSub, Nat.reduceMul, Nat.reduceAdd]
  exact fin_keep (by simp) ⟨_, _, [], rfl, rfl, (OwnL.int (OwnL.str OwnL.nil0)), Wi.nil⟩
theorem toRecFix_x {n0} {n1} (σ : Store) (b0 : (Lit.int .i64 n0).wf = true) (b1 : n1.length ≤ maxLen) (hz : n1.length ≤ 1048576) : ACalls Try.prog 152 [.agg [.t (.int .i64 n0), .t (.str n1)]] σ (ToLR [(.int .i64 n0), (.str n1)] σ) := by
  have h := toRecFix [(.int .i64 n0), (.str n1)] σ (mkRecFix b0 b1) (by rw [sizeRecFix]; omega)
  exact h
theorem i_szRecFixS : Is Try.prog 121 27 [(.tmp 4)] (tSzS 2 151) := ⟨_, _, Try.func121, by decide +kernel, rfl, rfl, by kernel_rfl, rfl⟩
theorem szRecFixS : SzOk Try.prog 121 (.sl 2 shRecFix) := szS_ok rfl i_szRecFixS szRecFix
theorem i_eqRecFixS : Is Try.prog 114 27 [(.tmp 4)] (tEqS 2 150) := ⟨_, _, Try.func114, by decide +kernel, rfl, rfl, by kernel_rfl, rfl⟩
theorem eqRecFixS : EqOk Try.prog 114 (.sl 2 shRecFix) := eqS_ok rfl i_eqRecFixS eqRecFix
theorem i_toRecFixS : Is Try.prog 123 23 [(.tmp 2)] (tToS 2 24 152 [.t (.int .i64 0), .t (.str [])]) := ⟨_, _, Try.func123, by decide +kernel, rfl, rfl, by kernel_rfl, rfl⟩
theorem toRecFixS : ToOk Try.prog 123 (.sl 2 shRecFix) := toS_ok 24 [.t (.int .i64 0), .t (.str [])] rfl (by decide) rfl (by decide) i_toRecFixS toRecFix
end Go.Proofs.Ytleilaipdhmgeaa.W
