/- What the laws' own helpers do with these structs: sizes, copies, comparing (printed by laws.py). Conditions: none. -/
/- The program's structs as Lean structures, their trees (printed by types.py). Conditions: none. -/
import Derived.Test.YtabakekeicbpbaaAb3
import Derived.IntWalk
import Derived.Test.YtabakekeicbpbaaProg
import Derived.KernelRfl
set_option linter.unusedSimpArgs false
set_option linter.unusedVariables false
set_option linter.defProp false

section
open Go Go.Ab
set_option maxHeartbeats 4000000
set_option maxRecDepth 20000
namespace Go.Proofs.Ytabakekeicbpbaa.W
theorem i_eqIntS : Is Try.prog 29 26 [(.tmp 4)] (tEq1) := ⟨_, _, Try.func29, by decide +kernel, rfl, rfl, by kernel_rfl, rfl⟩
theorem eqIntS : EqOk Try.prog 29 (.sl 1 [.int .i64]) := eqInt_ok i_eqIntS
def shStewService : List Sh := [.str, .int .i64, .bool, .int .i64, .int .i64, .int .i64, .int .i64, .int .i64, .int .i64, .int .i64, .int .i64, .int .i64, .int .i64]
theorem isStewService {ts : List T} (ht : T.isL shStewService ts) : ∃ n0 n1 n2 n3 n4 n5 n6 n7 n8 n9 n10 n11 n12, ts = [(.str n0), (.int .i64 n1), (.bool n2), (.int .i64 n3), (.int .i64 n4), (.int .i64 n5), (.int .i64 n6), (.int .i64 n7), (.int .i64 n8), (.int .i64 n9), (.int .i64 n10), (.int .i64 n11), (.int .i64 n12)] ∧ n0.length ≤ maxLen ∧ (Lit.int .i64 n1).wf = true ∧ (Lit.int .i64 n3).wf = true ∧ (Lit.int .i64 n4).wf = true ∧ (Lit.int .i64 n5).wf = true ∧ (Lit.int .i64 n6).wf = true ∧ (Lit.int .i64 n7).wf = true ∧ (Lit.int .i64 n8).wf = true ∧ (Lit.int .i64 n9).wf = true ∧ (Lit.int .i64 n10).wf = true ∧ (Lit.int .i64 n11).wf = true ∧ (Lit.int .i64 n12).wf = true := by
  simp only [shStewService, isL_cons, isL_nil, is_int, is_bool, is_str] at ht
  obtain ⟨_, _, rfl, ⟨n0, rfl, b0⟩, _, _, rfl, ⟨n1, rfl, b1⟩, _, _, rfl, ⟨n2, rfl⟩, _, _, rfl, ⟨n3, rfl, b3⟩, _, _, rfl, ⟨n4, rfl, b4⟩, _, _, rfl, ⟨n5, rfl, b5⟩, _, _, rfl, ⟨n6, rfl, b6⟩, _, _, rfl, ⟨n7, rfl, b7⟩, _, _, rfl, ⟨n8, rfl, b8⟩, _, _, rfl, ⟨n9, rfl, b9⟩, _, _, rfl, ⟨n10, rfl, b10⟩, _, _, rfl, ⟨n11, rfl, b11⟩, _, _, rfl, ⟨n12, rfl, b12⟩, rfl⟩ := ht
  exact ⟨_, _, _, _, _, _, _, _, _, _, _, _, _, rfl, b0, b1, b3, b4, b5, b6, b7, b8, b9, b10, b11, b12⟩
theorem mkStewService {n0} {n1} {n2} {n3} {n4} {n5} {n6} {n7} {n8} {n9} {n10} {n11} {n12} (b0 : n0.length ≤ maxLen) (b1 : (Lit.int .i64 n1).wf = true) (b3 : (Lit.int .i64 n3).wf = true) (b4 : (Lit.int .i64 n4).wf = true) (b5 : (Lit.int .i64 n5).wf = true) (b6 : (Lit.int .i64 n6).wf = true) (b7 : (Lit.int .i64 n7).wf = true) (b8 : (Lit.int .i64 n8).wf = true) (b9 : (Lit.int .i64 n9).wf = true) (b10 : (Lit.int .i64 n10).wf = true) (b11 : (Lit.int .i64 n11).wf = true) (b12 : (Lit.int .i64 n12).wf = true) : T.isL shStewService [(.str n0), (.int .i64 n1), (.bool n2), (.int .i64 n3), (.int .i64 n4), (.int .i64 n5), (.int .i64 n6), (.int .i64 n7), (.int .i64 n8), (.int .i64 n9), (.int .i64 n10), (.int .i64 n11), (.int .i64 n12)] := by
  simp only [shStewService, isL_cons, isL_nil, is_int, is_bool, is_str]
  exact ⟨_, _, rfl, ⟨_, rfl, b0⟩, _, _, rfl, ⟨_, rfl, b1⟩, _, _, rfl, ⟨_, rfl⟩, _, _, rfl, ⟨_, rfl, b3⟩, _, _, rfl, ⟨_, rfl, b4⟩, _, _, rfl, ⟨_, rfl, b5⟩, _, _, rfl, ⟨_, rfl, b6⟩, _, _, rfl, ⟨_, rfl, b7⟩, _, _, rfl, ⟨_, rfl, b8⟩, _, _, rfl, ⟨_, rfl, b9⟩, _, _, rfl, ⟨_, rfl, b10⟩, _, _, rfl, ⟨_, rfl, b11⟩, _, _, rfl, ⟨_, rfl, b12⟩, rfl⟩
theorem sizeStewService {n0} {n1} {n2} {n3} {n4} {n5} {n6} {n7} {n8} {n9} {n10} {n11} {n12} : T.sizeL [(.str n0), (.int .i64 n1), (.bool n2), (.int .i64 n3), (.int .i64 n4), (.int .i64 n5), (.int .i64 n6), (.int .i64 n7), (.int .i64 n8), (.int .i64 n9), (.int .i64 n10), (.int .i64 n11), (.int .i64 n12)] = n0.length := by
  simp only [sizeL_cons, sizeL_nil, size_int, size_bool, size_str]
  try omega
def c_laws_szStewService : C := (.seq (.ops [⟨(some 2), none, (.box (.t 0))⟩, ⟨(some 4), none, (.mv (.c (.t (.int .i64 0))))⟩]) (.seq (.ops [⟨(some 5), none, (.mv (.t 1))⟩, ⟨(some 6), none, (.fieldAddr 0 (.t 2))⟩, ⟨(some 7), none, (.load none (.t 6))⟩, ⟨(some 8), none, (.len true (.t 7))⟩, ⟨(some 9), none, (.bin .sub (.t 5) (.t 8))⟩, ⟨(some 1), none, (.mv (.t 9))⟩]) (.seq (.seq (.ops [⟨(some 10), none, (.mv (.t 1))⟩, ⟨(some 11), none, (.bin .lss (.t 10) (.c (.t (.int .i64 0))))⟩]) (.cond (.t 11) (.seq (.ops [⟨(some 4), none, (.mv (.c (.t (.int .i64 (-1)))))⟩]) .ret) .skip)) (.seq (.ops [⟨(some 12), none, (.mv (.t 1))⟩, ⟨(some 4), none, (.mv (.t 12))⟩]) .ret))))
theorem k_laws_szStewService : comp Try.prog 13 (Try.f75.body.getD .skip) = some c_laws_szStewService := by kernel_rfl

theorem szStewService : SzLOk Try.prog 75 shStewService := by
  rintro ts left σ ht h0 h1
  obtain ⟨n0, n1, n2, n3, n4, n5, n6, n7, n8, n9, n10, n11, n12, rfl, b0, b1, b3, b4, b5, b6, b7, b8, b9, b10, b11, b12⟩ := isStewService ht
  refine acalls_of Try.func75 (by decide +kernel) (code := Try.f75.body.getD .skip) (n := 13) (c := c_laws_szStewService) (rs := [(.tmp 4)]) rfl rfl k_laws_szStewService (by kernel_rfl) (by simp) (fun hσ => ?_)
  try simp only [maxLen] at *
  have fin : ∀ {n : Int} {τ : Store}, n ≤ left → (0 ≤ n → ((n0.length : Nat) : Int) + n ≤ left) → retV σ.length (SzR (T.sizeL [(.str n0), (.int .i64 n1), (.bool n2), (.int .i64 n3), (.int .i64 n4), (.int .i64 n5), (.int .i64 n6), (.int .i64 n7), (.int .i64 n8), (.int .i64 n9), (.int .i64 n10), (.int .i64 n11), (.int .i64 n12)]) left σ) (σ ++ τ) (some [.t (.int .i64 n)]) := fun h h' => ret_same rfl hσ rfl ⟨⟨_, rfl, h, fun h0 => by have := h' h0; rw [sizeStewService]; exact this⟩, rfl⟩
  have w0 : IntKind.i64.wrap (left - n0.length) = left - n0.length := IntWalk.i64_in _ (by omega)
  simp -implicitDefEqProofs only [c_laws_szStewService, w0, S0, S1, S2, S3, S4, S5, S6, S7, S8, S9, S10, S11, S12, S13, S14, S15, S16, opv, opvs, eget, env0, setD, lenStr, lenSl, isNilP, isNilS, putAt, if_true, if_false, reduceCtorEq, Nat.reduceLeDiff, Nat.reduceEqDiff, Nat.reduceSub, Nat.reduceMul, Nat.reduceAdd]
  refine cond_split (fun h => ?_) (fun h => ?_)
  · simp -implicitDefEqProofs only [S0, S1, S2, S3, S4, S5, S6, S7, S8, S9, S10, S11, S12, S13, S14, S15, S16, opv, opvs, eget, env0, setD, lenStr, lenSl, isNilP, isNilS, putAt, if_true, if_false, reduceCtorEq, Nat.reduceLeDiff, Nat.reduceEqDiff, Nat.reduceSub, Nat.reduceMul, Nat.reduceAdd]
    simp only [decide_eq_true_eq] at h
    exact fin (by omega) (by omega)
  simp only [decide_eq_false_iff_not, Int.not_lt] at h
  simp -implicitDefEqProofs only [S0, S1, S2, S3, S4, S5, S6, S7, S8, S9, S10, S11, S12, S13, S14, S15, S16, opv, opvs, eget, env0, setD, lenStr, lenSl, isNilP, isNilS, putAt, if_true, if_false, reduceCtorEq, Nat.reduceLeDiff, Nat.reduceEqDiff, Nat.reduceSub, Nat.reduceMul, Nat.reduceAdd]
  exact fin (by omega) (fun _ => by omega)
theorem szStewService_x {n0} {n1} {n2} {n3} {n4} {n5} {n6} {n7} {n8} {n9} {n10} {n11} {n12} (left : Int) (σ : Store) (b0 : n0.length ≤ maxLen) (b1 : (Lit.int .i64 n1).wf = true) (b3 : (Lit.int .i64 n3).wf = true) (b4 : (Lit.int .i64 n4).wf = true) (b5 : (Lit.int .i64 n5).wf = true) (b6 : (Lit.int .i64 n6).wf = true) (b7 : (Lit.int .i64 n7).wf = true) (b8 : (Lit.int .i64 n8).wf = true) (b9 : (Lit.int .i64 n9).wf = true) (b10 : (Lit.int .i64 n10).wf = true) (b11 : (Lit.int .i64 n11).wf = true) (b12 : (Lit.int .i64 n12).wf = true) (h0 : 0 ≤ left) (h1 : left ≤ 1048576) : ACalls Try.prog 75 [.agg [.t (.str n0), .t (.int .i64 n1), .t (.bool n2), .t (.int .i64 n3), .t (.int .i64 n4), .t (.int .i64 n5), .t (.int .i64 n6), .t (.int .i64 n7), .t (.int .i64 n8), .t (.int .i64 n9), .t (.int .i64 n10), .t (.int .i64 n11), .t (.int .i64 n12)], .t (.int .i64 left)] σ (SzR (T.sizeL [(.str n0), (.int .i64 n1), (.bool n2), (.int .i64 n3), (.int .i64 n4), (.int .i64 n5), (.int .i64 n6), (.int .i64 n7), (.int .i64 n8), (.int .i64 n9), (.int .i64 n10), (.int .i64 n11), (.int .i64 n12)]) left σ) := by
  have h := szStewService [(.str n0), (.int .i64 n1), (.bool n2), (.int .i64 n3), (.int .i64 n4), (.int .i64 n5), (.int .i64 n6), (.int .i64 n7), (.int .i64 n8), (.int .i64 n9), (.int .i64 n10), (.int .i64 n11), (.int .i64 n12)] left σ (mkStewService b0 b1 b3 b4 b5 b6 b7 b8 b9 b10 b11 b12) h0 h1
  exact h
def c_laws_eqStewService : C := (.seq (.ops [⟨(some 2), none, (.box (.t 0))⟩, ⟨(some 3), none, (.box (.t 1))⟩, ⟨(some 4), none, (.mv (.c (.t (.bool false))))⟩]) (.seq (.seq (.ops [⟨(some 5), none, (.fieldAddr 0 (.t 2))⟩, ⟨(some 6), none, (.load none (.t 5))⟩, ⟨(some 7), none, (.fieldAddr 0 (.t 3))⟩, ⟨(some 8), none, (.load none (.t 7))⟩, ⟨(some 9), none, (.bin .neq (.t 6) (.t 8))⟩]) (.cond (.t 9) (.seq (.ops [⟨(some 4), none, (.mv (.c (.t (.bool false))))⟩]) .ret) .skip)) (.seq (.seq (.ops [⟨(some 10), none, (.fieldAddr 1 (.t 2))⟩, ⟨(some 11), none, (.load none (.t 10))⟩, ⟨(some 12), none, (.fieldAddr 1 (.t 3))⟩, ⟨(some 13), none, (.load none (.t 12))⟩, ⟨(some 14), none, (.bin .neq (.t 11) (.t 13))⟩]) (.cond (.t 14) (.seq (.ops [⟨(some 4), none, (.mv (.c (.t (.bool false))))⟩]) .ret) .skip)) (.seq (.seq (.ops [⟨(some 15), none, (.fieldAddr 2 (.t 2))⟩, ⟨(some 16), none, (.load none (.t 15))⟩, ⟨(some 17), none, (.fieldAddr 2 (.t 3))⟩, ⟨(some 18), none, (.load none (.t 17))⟩, ⟨(some 19), none, (.eqB true (.t 16) (.t 18))⟩]) (.cond (.t 19) (.seq (.ops [⟨(some 4), none, (.mv (.c (.t (.bool false))))⟩]) .ret) .skip)) (.seq (.seq (.ops [⟨(some 20), none, (.fieldAddr 3 (.t 2))⟩, ⟨(some 21), none, (.load none (.t 20))⟩, ⟨(some 22), none, (.fieldAddr 3 (.t 3))⟩, ⟨(some 23), none, (.load none (.t 22))⟩, ⟨(some 24), none, (.bin .neq (.t 21) (.t 23))⟩]) (.cond (.t 24) (.seq (.ops [⟨(some 4), none, (.mv (.c (.t (.bool false))))⟩]) .ret) .skip)) (.seq (.seq (.ops [⟨(some 25), none, (.fieldAddr 4 (.t 2))⟩, ⟨(some 26), none, (.load none (.t 25))⟩, ⟨(some 27), none, (.fieldAddr 4 (.t 3))⟩, ⟨(some 28), none, (.load none (.t 27))⟩, ⟨(some 29), none, (.bin .neq (.t 26) (.t 28))⟩]) (.cond (.t 29) (.seq (.ops [⟨(some 4), none, (.mv (.c (.t (.bool false))))⟩]) .ret) .skip)) (.seq (.seq (.ops [⟨(some 30), none, (.fieldAddr 5 (.t 2))⟩, ⟨(some 31), none, (.load none (.t 30))⟩, ⟨(some 32), none, (.fieldAddr 5 (.t 3))⟩, ⟨(some 33), none, (.load none (.t 32))⟩, ⟨(some 34), none, (.bin .neq (.t 31) (.t 33))⟩]) (.cond (.t 34) (.seq (.ops [⟨(some 4), none, (.mv (.c (.t (.bool false))))⟩]) .ret) .skip)) (.seq (.seq (.ops [⟨(some 35), none, (.fieldAddr 6 (.t 2))⟩, ⟨(some 36), none, (.load none (.t 35))⟩, ⟨(some 37), none, (.fieldAddr 6 (.t 3))⟩, ⟨(some 38), none, (.load none (.t 37))⟩, ⟨(some 39), none, (.bin .neq (.t 36) (.t 38))⟩]) (.cond (.t 39) (.seq (.ops [⟨(some 4), none, (.mv (.c (.t (.bool false))))⟩]) .ret) .skip)) (.seq (.seq (.ops [⟨(some 40), none, (.fieldAddr 7 (.t 2))⟩, ⟨(some 41), none, (.load none (.t 40))⟩, ⟨(some 42), none, (.fieldAddr 7 (.t 3))⟩, ⟨(some 43), none, (.load none (.t 42))⟩, ⟨(some 44), none, (.bin .neq (.t 41) (.t 43))⟩]) (.cond (.t 44) (.seq (.ops [⟨(some 4), none, (.mv (.c (.t (.bool false))))⟩]) .ret) .skip)) (.seq (.seq (.ops [⟨(some 45), none, (.fieldAddr 8 (.t 2))⟩, ⟨(some 46), none, (.load none (.t 45))⟩, ⟨(some 47), none, (.fieldAddr 8 (.t 3))⟩, ⟨(some 48), none, (.load none (.t 47))⟩, ⟨(some 49), none, (.bin .neq (.t 46) (.t 48))⟩]) (.cond (.t 49) (.seq (.ops [⟨(some 4), none, (.mv (.c (.t (.bool false))))⟩]) .ret) .skip)) (.seq (.seq (.ops [⟨(some 50), none, (.fieldAddr 9 (.t 2))⟩, ⟨(some 51), none, (.load none (.t 50))⟩, ⟨(some 52), none, (.fieldAddr 9 (.t 3))⟩, ⟨(some 53), none, (.load none (.t 52))⟩, ⟨(some 54), none, (.bin .neq (.t 51) (.t 53))⟩]) (.cond (.t 54) (.seq (.ops [⟨(some 4), none, (.mv (.c (.t (.bool false))))⟩]) .ret) .skip)) (.seq (.seq (.ops [⟨(some 55), none, (.fieldAddr 10 (.t 2))⟩, ⟨(some 56), none, (.load none (.t 55))⟩, ⟨(some 57), none, (.fieldAddr 10 (.t 3))⟩, ⟨(some 58), none, (.load none (.t 57))⟩, ⟨(some 59), none, (.bin .neq (.t 56) (.t 58))⟩]) (.cond (.t 59) (.seq (.ops [⟨(some 4), none, (.mv (.c (.t (.bool false))))⟩]) .ret) .skip)) (.seq (.seq (.ops [⟨(some 60), none, (.fieldAddr 11 (.t 2))⟩, ⟨(some 61), none, (.load none (.t 60))⟩, ⟨(some 62), none, (.fieldAddr 11 (.t 3))⟩, ⟨(some 63), none, (.load none (.t 62))⟩, ⟨(some 64), none, (.bin .neq (.t 61) (.t 63))⟩]) (.cond (.t 64) (.seq (.ops [⟨(some 4), none, (.mv (.c (.t (.bool false))))⟩]) .ret) .skip)) (.seq (.seq (.ops [⟨(some 65), none, (.fieldAddr 12 (.t 2))⟩, ⟨(some 66), none, (.load none (.t 65))⟩, ⟨(some 67), none, (.fieldAddr 12 (.t 3))⟩, ⟨(some 68), none, (.load none (.t 67))⟩, ⟨(some 69), none, (.bin .neq (.t 66) (.t 68))⟩]) (.cond (.t 69) (.seq (.ops [⟨(some 4), none, (.mv (.c (.t (.bool false))))⟩]) .ret) .skip)) (.seq (.ops [⟨(some 4), none, (.mv (.c (.t (.bool true))))⟩]) .ret)))))))))))))))
theorem k_laws_eqStewService : comp Try.prog 70 (Try.f83.body.getD .skip) = some c_laws_eqStewService := by kernel_rfl

theorem eqStewService : EqLOk Try.prog 83 shStewService := by
  rintro ts σ ht h1
  obtain ⟨n0, n1, n2, n3, n4, n5, n6, n7, n8, n9, n10, n11, n12, rfl, b0, b1, b3, b4, b5, b6, b7, b8, b9, b10, b11, b12⟩ := isStewService ht
  rw [sizeStewService] at h1
  refine acalls_of Try.func83 (by decide +kernel) (code := Try.f83.body.getD .skip) (n := 70) (c := c_laws_eqStewService) (rs := [(.tmp 4)]) rfl rfl k_laws_eqStewService (by kernel_rfl) (by simp) (fun hσ => ?_)
  simp -implicitDefEqProofs only [c_laws_eqStewService, ne_self, beq_self_eq_true, S0, S1, S2, S3, S4, S5, S6, S7, S8, S9, S10, S11, S12, S13, S14, S15, S16, opv, opvs, eget, env0, setD, lenStr, lenSl, isNilP, isNilS, putAt, if_true, if_false, reduceCtorEq, Nat.reduceLeDiff, Nat.reduceEqDiff, Nat.reduceSub, Nat.reduceMul, Nat.reduceAdd]
  exact ret_same rfl hσ rfl ⟨rfl, rfl⟩
theorem eqStewService_x {n0} {n1} {n2} {n3} {n4} {n5} {n6} {n7} {n8} {n9} {n10} {n11} {n12} (σ : Store) (b0 : n0.length ≤ maxLen) (b1 : (Lit.int .i64 n1).wf = true) (b3 : (Lit.int .i64 n3).wf = true) (b4 : (Lit.int .i64 n4).wf = true) (b5 : (Lit.int .i64 n5).wf = true) (b6 : (Lit.int .i64 n6).wf = true) (b7 : (Lit.int .i64 n7).wf = true) (b8 : (Lit.int .i64 n8).wf = true) (b9 : (Lit.int .i64 n9).wf = true) (b10 : (Lit.int .i64 n10).wf = true) (b11 : (Lit.int .i64 n11).wf = true) (b12 : (Lit.int .i64 n12).wf = true) (hz : n0.length ≤ 1099511627776) : ACalls Try.prog 83 [.agg [.t (.str n0), .t (.int .i64 n1), .t (.bool n2), .t (.int .i64 n3), .t (.int .i64 n4), .t (.int .i64 n5), .t (.int .i64 n6), .t (.int .i64 n7), .t (.int .i64 n8), .t (.int .i64 n9), .t (.int .i64 n10), .t (.int .i64 n11), .t (.int .i64 n12)], .agg [.t (.str n0), .t (.int .i64 n1), .t (.bool n2), .t (.int .i64 n3), .t (.int .i64 n4), .t (.int .i64 n5), .t (.int .i64 n6), .t (.int .i64 n7), .t (.int .i64 n8), .t (.int .i64 n9), .t (.int .i64 n10), .t (.int .i64 n11), .t (.int .i64 n12)]] σ (TrueR σ) := by
  have h := eqStewService [(.str n0), (.int .i64 n1), (.bool n2), (.int .i64 n3), (.int .i64 n4), (.int .i64 n5), (.int .i64 n6), (.int .i64 n7), (.int .i64 n8), (.int .i64 n9), (.int .i64 n10), (.int .i64 n11), (.int .i64 n12)] σ (mkStewService b0 b1 b3 b4 b5 b6 b7 b8 b9 b10 b11 b12) (by rw [sizeStewService]; omega)
  exact h
def c_laws_toStewService : C := (.seq (.ops [⟨(some 1), none, (.box (.t 0))⟩, ⟨(some 2), none, (.new [(.t (.str [])), (.t (.int .i64 0)), (.t (.bool false)), (.t (.int .i64 0)), (.t (.int .i64 0)), (.t (.int .i64 0)), (.t (.int .i64 0)), (.t (.int .i64 0)), (.t (.int .i64 0)), (.t (.int .i64 0)), (.t (.int .i64 0)), (.t (.int .i64 0)), (.t (.int .i64 0))])⟩]) (.seq (.ops [⟨(some 3), none, (.new [(.t (.str [])), (.t (.int .i64 0)), (.t (.bool false)), (.t (.int .i64 0)), (.t (.int .i64 0)), (.t (.int .i64 0)), (.t (.int .i64 0)), (.t (.int .i64 0)), (.t (.int .i64 0)), (.t (.int .i64 0)), (.t (.int .i64 0)), (.t (.int .i64 0)), (.t (.int .i64 0))])⟩]) (.seq (.ops [⟨(some 4), none, (.fieldAddr 0 (.t 1))⟩, ⟨(some 5), none, (.load none (.t 4))⟩, ⟨(some 6), none, (.fieldAddr 0 (.t 3))⟩, ⟨none, none, (.store 1 (.t 6) (.t 5))⟩]) (.seq (.ops [⟨(some 7), none, (.fieldAddr 1 (.t 1))⟩, ⟨(some 8), none, (.load none (.t 7))⟩, ⟨(some 9), none, (.fieldAddr 1 (.t 3))⟩, ⟨none, none, (.store 1 (.t 9) (.t 8))⟩]) (.seq (.ops [⟨(some 10), none, (.fieldAddr 2 (.t 1))⟩, ⟨(some 11), none, (.load none (.t 10))⟩, ⟨(some 12), none, (.fieldAddr 2 (.t 3))⟩, ⟨none, none, (.store 1 (.t 12) (.t 11))⟩]) (.seq (.ops [⟨(some 13), none, (.fieldAddr 3 (.t 1))⟩, ⟨(some 14), none, (.load none (.t 13))⟩, ⟨(some 15), none, (.fieldAddr 3 (.t 3))⟩, ⟨none, none, (.store 1 (.t 15) (.t 14))⟩]) (.seq (.ops [⟨(some 16), none, (.fieldAddr 4 (.t 1))⟩, ⟨(some 17), none, (.load none (.t 16))⟩, ⟨(some 18), none, (.fieldAddr 4 (.t 3))⟩, ⟨none, none, (.store 1 (.t 18) (.t 17))⟩]) (.seq (.ops [⟨(some 19), none, (.fieldAddr 5 (.t 1))⟩, ⟨(some 20), none, (.load none (.t 19))⟩, ⟨(some 21), none, (.fieldAddr 5 (.t 3))⟩, ⟨none, none, (.store 1 (.t 21) (.t 20))⟩]) (.seq (.ops [⟨(some 22), none, (.fieldAddr 6 (.t 1))⟩, ⟨(some 23), none, (.load none (.t 22))⟩, ⟨(some 24), none, (.fieldAddr 6 (.t 3))⟩, ⟨none, none, (.store 1 (.t 24) (.t 23))⟩]) (.seq (.ops [⟨(some 25), none, (.fieldAddr 7 (.t 1))⟩, ⟨(some 26), none, (.load none (.t 25))⟩, ⟨(some 27), none, (.fieldAddr 7 (.t 3))⟩, ⟨none, none, (.store 1 (.t 27) (.t 26))⟩]) (.seq (.ops [⟨(some 28), none, (.fieldAddr 8 (.t 1))⟩, ⟨(some 29), none, (.load none (.t 28))⟩, ⟨(some 30), none, (.fieldAddr 8 (.t 3))⟩, ⟨none, none, (.store 1 (.t 30) (.t 29))⟩]) (.seq (.ops [⟨(some 31), none, (.fieldAddr 9 (.t 1))⟩, ⟨(some 32), none, (.load none (.t 31))⟩, ⟨(some 33), none, (.fieldAddr 9 (.t 3))⟩, ⟨none, none, (.store 1 (.t 33) (.t 32))⟩]) (.seq (.ops [⟨(some 34), none, (.fieldAddr 10 (.t 1))⟩, ⟨(some 35), none, (.load none (.t 34))⟩, ⟨(some 36), none, (.fieldAddr 10 (.t 3))⟩, ⟨none, none, (.store 1 (.t 36) (.t 35))⟩]) (.seq (.ops [⟨(some 37), none, (.fieldAddr 11 (.t 1))⟩, ⟨(some 38), none, (.load none (.t 37))⟩, ⟨(some 39), none, (.fieldAddr 11 (.t 3))⟩, ⟨none, none, (.store 1 (.t 39) (.t 38))⟩]) (.seq (.ops [⟨(some 40), none, (.fieldAddr 12 (.t 1))⟩, ⟨(some 41), none, (.load none (.t 40))⟩, ⟨(some 42), none, (.fieldAddr 12 (.t 3))⟩, ⟨none, none, (.store 1 (.t 42) (.t 41))⟩]) (.seq (.ops [⟨(some 43), none, (.load (some 13) (.t 3))⟩, ⟨none, none, (.store 13 (.t 2) (.t 43))⟩]) .ret))))))))))))))))
theorem k_laws_toStewService : comp Try.prog 44 (Try.f80.body.getD .skip) = some c_laws_toStewService := by kernel_rfl

theorem toStewService : ToLOk Try.prog 80 shStewService := by
  rintro ts σ ht h1
  obtain ⟨n0, n1, n2, n3, n4, n5, n6, n7, n8, n9, n10, n11, n12, rfl, b0, b1, b3, b4, b5, b6, b7, b8, b9, b10, b11, b12⟩ := isStewService ht
  rw [sizeStewService] at h1
  refine acalls_of Try.func80 (by decide +kernel) (code := Try.f80.body.getD .skip) (n := 44) (c := c_laws_toStewService) (rs := [(.cell 2 (some 13))]) rfl rfl k_laws_toStewService (by kernel_rfl) (by simp) (fun hσ => ?_)
  simp -implicitDefEqProofs only [c_laws_toStewService, S0, S1, S2, S3, S4, S5, S6, S7, S8, S9, S10, S11, S12, S13, S14, S15, S16, opv, opvs, eget, env0, setD, lenStr, lenSl, isNilP, isNilS, putAt, if_true, if_false, reduceCtorEq, Nat.reduceLeDiff, Nat.reduceEqDiff, Nat.reduceSub, Nat.reduceMul, Nat.reduceAdd]
  exact fin_keep (by simp) ⟨_, _, [], rfl, rfl, (OwnL.str (OwnL.int (OwnL.bool (OwnL.int (OwnL.int (OwnL.int (OwnL.int (OwnL.int (OwnL.int (OwnL.int (OwnL.int (OwnL.int (OwnL.int OwnL.nil0))))))))))))), Wi.nil⟩
theorem toStewService_x {n0} {n1} {n2} {n3} {n4} {n5} {n6} {n7} {n8} {n9} {n10} {n11} {n12} (σ : Store) (b0 : n0.length ≤ maxLen) (b1 : (Lit.int .i64 n1).wf = true) (b3 : (Lit.int .i64 n3).wf = true) (b4 : (Lit.int .i64 n4).wf = true) (b5 : (Lit.int .i64 n5).wf = true) (b6 : (Lit.int .i64 n6).wf = true) (b7 : (Lit.int .i64 n7).wf = true) (b8 : (Lit.int .i64 n8).wf = true) (b9 : (Lit.int .i64 n9).wf = true) (b10 : (Lit.int .i64 n10).wf = true) (b11 : (Lit.int .i64 n11).wf = true) (b12 : (Lit.int .i64 n12).wf = true) (hz : n0.length ≤ 1048576) : ACalls Try.prog 80 [.agg [.t (.str n0), .t (.int .i64 n1), .t (.bool n2), .t (.int .i64 n3), .t (.int .i64 n4), .t (.int .i64 n5), .t (.int .i64 n6), .t (.int .i64 n7), .t (.int .i64 n8), .t (.int .i64 n9), .t (.int .i64 n10), .t (.int .i64 n11), .t (.int .i64 n12)]] σ (ToLR [(.str n0), (.int .i64 n1), (.bool n2), (.int .i64 n3), (.int .i64 n4), (.int .i64 n5), (.int .i64 n6), (.int .i64 n7), (.int .i64 n8), (.int .i64 n9), (.int .i64 n10), (.int .i64 n11), (.int .i64 n12)] σ) := by
  have h := toStewService [(.str n0), (.int .i64 n1), (.bool n2), (.int .i64 n3), (.int .i64 n4), (.int .i64 n5), (.int .i64 n6), (.int .i64 n7), (.int .i64 n8), (.int .i64 n9), (.int .i64 n10), (.int .i64 n11), (.int .i64 n12)] σ (mkStewService b0 b1 b3 b4 b5 b6 b7 b8 b9 b10 b11 b12) (by rw [sizeStewService]; omega)
  exact h
theorem i_szStewServiceS : Is Try.prog 35 27 [(.tmp 4)] (tSzS 13 75) := ⟨_, _, Try.func35, by decide +kernel, rfl, rfl, by kernel_rfl, rfl⟩
theorem szStewServiceS : SzOk Try.prog 35 (.sl 13 shStewService) := szS_ok rfl i_szStewServiceS szStewService
theorem i_eqStewServiceS : Is Try.prog 51 27 [(.tmp 4)] (tEqS 13 83) := ⟨_, _, Try.func51, by decide +kernel, rfl, rfl, by kernel_rfl, rfl⟩
theorem eqStewServiceS : EqOk Try.prog 51 (.sl 13 shStewService) := eqS_ok rfl i_eqStewServiceS eqStewService
theorem i_toStewServiceS : Is Try.prog 43 23 [(.tmp 2)] (tToS 13 112 80 [.t (.str []), .t (.int .i64 0), .t (.bool false), .t (.int .i64 0), .t (.int .i64 0), .t (.int .i64 0), .t (.int .i64 0), .t (.int .i64 0), .t (.int .i64 0), .t (.int .i64 0), .t (.int .i64 0), .t (.int .i64 0), .t (.int .i64 0)]) := ⟨_, _, Try.func43, by decide +kernel, rfl, rfl, by kernel_rfl, rfl⟩
theorem toStewServiceS : ToOk Try.prog 43 (.sl 13 shStewService) := toS_ok 112 [.t (.str []), .t (.int .i64 0), .t (.bool false), .t (.int .i64 0), .t (.int .i64 0), .t (.int .i64 0), .t (.int .i64 0), .t (.int .i64 0), .t (.int .i64 0), .t (.int .i64 0), .t (.int .i64 0), .t (.int .i64 0), .t (.int .i64 0)] rfl (by decide) rfl (by decide) i_toStewServiceS toStewService
def shStewCopy : List Sh := [.str, .int .i64, .int .i64, .int .i64, .int .i64, .bool, .str]
theorem isStewCopy {ts : List T} (ht : T.isL shStewCopy ts) : ∃ n0 n1 n2 n3 n4 n5 n6, ts = [(.str n0), (.int .i64 n1), (.int .i64 n2), (.int .i64 n3), (.int .i64 n4), (.bool n5), (.str n6)] ∧ n0.length ≤ maxLen ∧ (Lit.int .i64 n1).wf = true ∧ (Lit.int .i64 n2).wf = true ∧ (Lit.int .i64 n3).wf = true ∧ (Lit.int .i64 n4).wf = true ∧ n6.length ≤ maxLen := by
  simp only [shStewCopy, isL_cons, isL_nil, is_int, is_bool, is_str] at ht
  obtain ⟨_, _, rfl, ⟨n0, rfl, b0⟩, _, _, rfl, ⟨n1, rfl, b1⟩, _, _, rfl, ⟨n2, rfl, b2⟩, _, _, rfl, ⟨n3, rfl, b3⟩, _, _, rfl, ⟨n4, rfl, b4⟩, _, _, rfl, ⟨n5, rfl⟩, _, _, rfl, ⟨n6, rfl, b6⟩, rfl⟩ := ht
  exact ⟨_, _, _, _, _, _, _, rfl, b0, b1, b2, b3, b4, b6⟩
theorem mkStewCopy {n0} {n1} {n2} {n3} {n4} {n5} {n6} (b0 : n0.length ≤ maxLen) (b1 : (Lit.int .i64 n1).wf = true) (b2 : (Lit.int .i64 n2).wf = true) (b3 : (Lit.int .i64 n3).wf = true) (b4 : (Lit.int .i64 n4).wf = true) (b6 : n6.length ≤ maxLen) : T.isL shStewCopy [(.str n0), (.int .i64 n1), (.int .i64 n2), (.int .i64 n3), (.int .i64 n4), (.bool n5), (.str n6)] := by
  simp only [shStewCopy, isL_cons, isL_nil, is_int, is_bool, is_str]
  exact ⟨_, _, rfl, ⟨_, rfl, b0⟩, _, _, rfl, ⟨_, rfl, b1⟩, _, _, rfl, ⟨_, rfl, b2⟩, _, _, rfl, ⟨_, rfl, b3⟩, _, _, rfl, ⟨_, rfl, b4⟩, _, _, rfl, ⟨_, rfl⟩, _, _, rfl, ⟨_, rfl, b6⟩, rfl⟩
theorem sizeStewCopy {n0} {n1} {n2} {n3} {n4} {n5} {n6} : T.sizeL [(.str n0), (.int .i64 n1), (.int .i64 n2), (.int .i64 n3), (.int .i64 n4), (.bool n5), (.str n6)] = n0.length + n6.length := by
  simp only [sizeL_cons, sizeL_nil, size_int, size_bool, size_str]
  try omega
def c_laws_szStewCopy : C := (.seq (.ops [⟨(some 2), none, (.box (.t 0))⟩, ⟨(some 4), none, (.mv (.c (.t (.int .i64 0))))⟩]) (.seq (.ops [⟨(some 5), none, (.mv (.t 1))⟩, ⟨(some 6), none, (.fieldAddr 0 (.t 2))⟩, ⟨(some 7), none, (.load none (.t 6))⟩, ⟨(some 8), none, (.len true (.t 7))⟩, ⟨(some 9), none, (.bin .sub (.t 5) (.t 8))⟩, ⟨(some 1), none, (.mv (.t 9))⟩]) (.seq (.seq (.ops [⟨(some 10), none, (.mv (.t 1))⟩, ⟨(some 11), none, (.bin .lss (.t 10) (.c (.t (.int .i64 0))))⟩]) (.cond (.t 11) (.seq (.ops [⟨(some 4), none, (.mv (.c (.t (.int .i64 (-1)))))⟩]) .ret) .skip)) (.seq (.ops [⟨(some 12), none, (.mv (.t 1))⟩, ⟨(some 13), none, (.fieldAddr 6 (.t 2))⟩, ⟨(some 14), none, (.load none (.t 13))⟩, ⟨(some 15), none, (.len true (.t 14))⟩, ⟨(some 16), none, (.bin .sub (.t 12) (.t 15))⟩, ⟨(some 1), none, (.mv (.t 16))⟩]) (.seq (.seq (.ops [⟨(some 17), none, (.mv (.t 1))⟩, ⟨(some 18), none, (.bin .lss (.t 17) (.c (.t (.int .i64 0))))⟩]) (.cond (.t 18) (.seq (.ops [⟨(some 4), none, (.mv (.c (.t (.int .i64 (-1)))))⟩]) .ret) .skip)) (.seq (.ops [⟨(some 19), none, (.mv (.t 1))⟩, ⟨(some 4), none, (.mv (.t 19))⟩]) .ret))))))
theorem k_laws_szStewCopy : comp Try.prog 20 (Try.f76.body.getD .skip) = some c_laws_szStewCopy := by kernel_rfl

theorem szStewCopy : SzLOk Try.prog 76 shStewCopy := by
  rintro ts left σ ht h0 h1
  obtain ⟨n0, n1, n2, n3, n4, n5, n6, rfl, b0, b1, b2, b3, b4, b6⟩ := isStewCopy ht
  refine acalls_of Try.func76 (by decide +kernel) (code := Try.f76.body.getD .skip) (n := 20) (c := c_laws_szStewCopy) (rs := [(.tmp 4)]) rfl rfl k_laws_szStewCopy (by kernel_rfl) (by simp) (fun hσ => ?_)
  try simp only [maxLen] at *
  have fin : ∀ {n : Int} {τ : Store}, n ≤ left → (0 ≤ n → ((n0.length + n6.length : Nat) : Int) + n ≤ left) → retV σ.length (SzR (T.sizeL [(.str n0), (.int .i64 n1), (.int .i64 n2), (.int .i64 n3), (.int .i64 n4), (.bool n5), (.str n6)]) left σ) (σ ++ τ) (some [.t (.int .i64 n)]) := fun h h' => ret_same rfl hσ rfl ⟨⟨_, rfl, h, fun h0 => by have := h' h0; rw [sizeStewCopy]; exact this⟩, rfl⟩
  have w0 : IntKind.i64.wrap (left - n0.length) = left - n0.length := IntWalk.i64_in _ (by omega)
  simp -implicitDefEqProofs only [c_laws_szStewCopy, w0, S0, S1, S2, S3, S4, S5, S6, S7, S8, S9, S10, S11, S12, S13, S14, S15, S16, opv, opvs, eget, env0, setD, lenStr, lenSl, isNilP, isNilS, putAt, if_true, if_false, reduceCtorEq, Nat.reduceLeDiff, Nat.reduceEqDiff, Nat.reduceSub, Nat.reduceMul, Nat.reduceAdd]
  refine cond_split (fun h => ?_) (fun h => ?_)
  · simp -implicitDefEqProofs only [S0, S1, S2, S3, S4, S5, S6, S7, S8, S9, S10, S11, S12, S13, S14, S15, S16, opv, opvs, eget, env0, setD, lenStr, lenSl, isNilP, isNilS, putAt, if_true, if_false, reduceCtorEq, Nat.reduceLeDiff, Nat.reduceEqDiff, Nat.reduceSub, Nat.reduceMul, Nat.reduceAdd]
    simp only [decide_eq_true_eq] at h
    exact fin (by omega) (by omega)
  simp only [decide_eq_false_iff_not, Int.not_lt] at h
  have w6 : IntKind.i64.wrap ((left - n0.length) - n6.length) = (left - n0.length) - n6.length := IntWalk.i64_in _ (by omega)
  simp -implicitDefEqProofs only [w6, S0, S1, S2, S3, S4, S5, S6, S7, S8, S9, S10, S11, S12, S13, S14, S15, S16, opv, opvs, eget, env0, setD, lenStr, lenSl, isNilP, isNilS, putAt, if_true, if_false, reduceCtorEq, Nat.reduceLeDiff, Nat.reduceEqDiff, Nat.reduceSub, Nat.reduceMul, Nat.reduceAdd]
  refine cond_split (fun h => ?_) (fun h => ?_)
  · simp -implicitDefEqProofs only [S0, S1, S2, S3, S4, S5, S6, S7, S8, S9, S10, S11, S12, S13, S14, S15, S16, opv, opvs, eget, env0, setD, lenStr, lenSl, isNilP, isNilS, putAt, if_true, if_false, reduceCtorEq, Nat.reduceLeDiff, Nat.reduceEqDiff, Nat.reduceSub, Nat.reduceMul, Nat.reduceAdd]
    simp only [decide_eq_true_eq] at h
    exact fin (by omega) (by omega)
  simp only [decide_eq_false_iff_not, Int.not_lt] at h
  simp -implicitDefEqProofs only [S0, S1, S2, S3, S4, S5, S6, S7, S8, S9, S10, S11, S12, S13, S14, S15, S16, opv, opvs, eget, env0, setD, lenStr, lenSl, isNilP, isNilS, putAt, if_true, if_false, reduceCtorEq, Nat.reduceLeDiff, Nat.reduceEqDiff, Nat.reduceSub, Nat.reduceMul, Nat.reduceAdd]
  exact fin (by omega) (fun _ => by omega)
theorem szStewCopy_x {n0} {n1} {n2} {n3} {n4} {n5} {n6} (left : Int) (σ : Store) (b0 : n0.length ≤ maxLen) (b1 : (Lit.int .i64 n1).wf = true) (b2 : (Lit.int .i64 n2).wf = true) (b3 : (Lit.int .i64 n3).wf = true) (b4 : (Lit.int .i64 n4).wf = true) (b6 : n6.length ≤ maxLen) (h0 : 0 ≤ left) (h1 : left ≤ 1048576) : ACalls Try.prog 76 [.agg [.t (.str n0), .t (.int .i64 n1), .t (.int .i64 n2), .t (.int .i64 n3), .t (.int .i64 n4), .t (.bool n5), .t (.str n6)], .t (.int .i64 left)] σ (SzR (T.sizeL [(.str n0), (.int .i64 n1), (.int .i64 n2), (.int .i64 n3), (.int .i64 n4), (.bool n5), (.str n6)]) left σ) := by
  have h := szStewCopy [(.str n0), (.int .i64 n1), (.int .i64 n2), (.int .i64 n3), (.int .i64 n4), (.bool n5), (.str n6)] left σ (mkStewCopy b0 b1 b2 b3 b4 b6) h0 h1
  exact h
def c_laws_eqStewCopy : C := (.seq (.ops [⟨(some 2), none, (.box (.t 0))⟩, ⟨(some 3), none, (.box (.t 1))⟩, ⟨(some 4), none, (.mv (.c (.t (.bool false))))⟩]) (.seq (.seq (.ops [⟨(some 5), none, (.fieldAddr 0 (.t 2))⟩, ⟨(some 6), none, (.load none (.t 5))⟩, ⟨(some 7), none, (.fieldAddr 0 (.t 3))⟩, ⟨(some 8), none, (.load none (.t 7))⟩, ⟨(some 9), none, (.bin .neq (.t 6) (.t 8))⟩]) (.cond (.t 9) (.seq (.ops [⟨(some 4), none, (.mv (.c (.t (.bool false))))⟩]) .ret) .skip)) (.seq (.seq (.ops [⟨(some 10), none, (.fieldAddr 1 (.t 2))⟩, ⟨(some 11), none, (.load none (.t 10))⟩, ⟨(some 12), none, (.fieldAddr 1 (.t 3))⟩, ⟨(some 13), none, (.load none (.t 12))⟩, ⟨(some 14), none, (.bin .neq (.t 11) (.t 13))⟩]) (.cond (.t 14) (.seq (.ops [⟨(some 4), none, (.mv (.c (.t (.bool false))))⟩]) .ret) .skip)) (.seq (.seq (.ops [⟨(some 15), none, (.fieldAddr 2 (.t 2))⟩, ⟨(some 16), none, (.load none (.t 15))⟩, ⟨(some 17), none, (.fieldAddr 2 (.t 3))⟩, ⟨(some 18), none, (.load none (.t 17))⟩, ⟨(some 19), none, (.bin .neq (.t 16) (.t 18))⟩]) (.cond (.t 19) (.seq (.ops [⟨(some 4), none, (.mv (.c (.t (.bool false))))⟩]) .ret) .skip)) (.seq (.seq (.ops [⟨(some 20), none, (.fieldAddr 3 (.t 2))⟩, ⟨(some 21), none, (.load none (.t 20))⟩, ⟨(some 22), none, (.fieldAddr 3 (.t 3))⟩, ⟨(some 23), none, (.load none (.t 22))⟩, ⟨(some 24), none, (.bin .neq (.t 21) (.t 23))⟩]) (.cond (.t 24) (.seq (.ops [⟨(some 4), none, (.mv (.c (.t (.bool false))))⟩]) .ret) .skip)) (.seq (.seq (.ops [⟨(some 25), none, (.fieldAddr 4 (.t 2))⟩, ⟨(some 26), none, (.load none (.t 25))⟩, ⟨(some 27), none, (.fieldAddr 4 (.t 3))⟩, ⟨(some 28), none, (.load none (.t 27))⟩, ⟨(some 29), none, (.bin .neq (.t 26) (.t 28))⟩]) (.cond (.t 29) (.seq (.ops [⟨(some 4), none, (.mv (.c (.t (.bool false))))⟩]) .ret) .skip)) (.seq (.seq (.ops [⟨(some 30), none, (.fieldAddr 5 (.t 2))⟩, ⟨(some 31), none, (.load none (.t 30))⟩, ⟨(some 32), none, (.fieldAddr 5 (.t 3))⟩, ⟨(some 33), none, (.load none (.t 32))⟩, ⟨(some 34), none, (.eqB true (.t 31) (.t 33))⟩]) (.cond (.t 34) (.seq (.ops [⟨(some 4), none, (.mv (.c (.t (.bool false))))⟩]) .ret) .skip)) (.seq (.seq (.ops [⟨(some 35), none, (.fieldAddr 6 (.t 2))⟩, ⟨(some 36), none, (.load none (.t 35))⟩, ⟨(some 37), none, (.fieldAddr 6 (.t 3))⟩, ⟨(some 38), none, (.load none (.t 37))⟩, ⟨(some 39), none, (.bin .neq (.t 36) (.t 38))⟩]) (.cond (.t 39) (.seq (.ops [⟨(some 4), none, (.mv (.c (.t (.bool false))))⟩]) .ret) .skip)) (.seq (.ops [⟨(some 4), none, (.mv (.c (.t (.bool true))))⟩]) .ret)))))))))
theorem k_laws_eqStewCopy : comp Try.prog 40 (Try.f84.body.getD .skip) = some c_laws_eqStewCopy := by kernel_rfl

theorem eqStewCopy : EqLOk Try.prog 84 shStewCopy := by
  rintro ts σ ht h1
  obtain ⟨n0, n1, n2, n3, n4, n5, n6, rfl, b0, b1, b2, b3, b4, b6⟩ := isStewCopy ht
  rw [sizeStewCopy] at h1
  refine acalls_of Try.func84 (by decide +kernel) (code := Try.f84.body.getD .skip) (n := 40) (c := c_laws_eqStewCopy) (rs := [(.tmp 4)]) rfl rfl k_laws_eqStewCopy (by kernel_rfl) (by simp) (fun hσ => ?_)
  simp -implicitDefEqProofs only [c_laws_eqStewCopy, ne_self, beq_self_eq_true, S0, S1, S2, S3, S4, S5, S6, S7, S8, S9, S10, S11, S12, S13, S14, S15, S16, opv, opvs, eget, env0, setD, lenStr, lenSl, isNilP, isNilS, putAt, if_true, if_false, reduceCtorEq, Nat.reduceLeDiff, Nat.reduceEqDiff, Nat.reduceSub, Nat.reduceMul, Nat.reduceAdd]
  exact ret_same rfl hσ rfl ⟨rfl, rfl⟩
theorem eqStewCopy_x {n0} {n1} {n2} {n3} {n4} {n5} {n6} (σ : Store) (b0 : n0.length ≤ maxLen) (b1 : (Lit.int .i64 n1).wf = true) (b2 : (Lit.int .i64 n2).wf = true) (b3 : (Lit.int .i64 n3).wf = true) (b4 : (Lit.int .i64 n4).wf = true) (b6 : n6.length ≤ maxLen) (hz : n0.length + n6.length ≤ 1099511627776) : ACalls Try.prog 84 [.agg [.t (.str n0), .t (.int .i64 n1), .t (.int .i64 n2), .t (.int .i64 n3), .t (.int .i64 n4), .t (.bool n5), .t (.str n6)], .agg [.t (.str n0), .t (.int .i64 n1), .t (.int .i64 n2), .t (.int .i64 n3), .t (.int .i64 n4), .t (.bool n5), .t (.str n6)]] σ (TrueR σ) := by
  have h := eqStewCopy [(.str n0), (.int .i64 n1), (.int .i64 n2), (.int .i64 n3), (.int .i64 n4), (.bool n5), (.str n6)] σ (mkStewCopy b0 b1 b2 b3 b4 b6) (by rw [sizeStewCopy]; omega)
  exact h
def c_laws_toStewCopy : C := (.seq (.ops [⟨(some 1), none, (.box (.t 0))⟩, ⟨(some 2), none, (.new [(.t (.str [])), (.t (.int .i64 0)), (.t (.int .i64 0)), (.t (.int .i64 0)), (.t (.int .i64 0)), (.t (.bool false)), (.t (.str []))])⟩]) (.seq (.ops [⟨(some 3), none, (.new [(.t (.str [])), (.t (.int .i64 0)), (.t (.int .i64 0)), (.t (.int .i64 0)), (.t (.int .i64 0)), (.t (.bool false)), (.t (.str []))])⟩]) (.seq (.ops [⟨(some 4), none, (.fieldAddr 0 (.t 1))⟩, ⟨(some 5), none, (.load none (.t 4))⟩, ⟨(some 6), none, (.fieldAddr 0 (.t 3))⟩, ⟨none, none, (.store 1 (.t 6) (.t 5))⟩]) (.seq (.ops [⟨(some 7), none, (.fieldAddr 1 (.t 1))⟩, ⟨(some 8), none, (.load none (.t 7))⟩, ⟨(some 9), none, (.fieldAddr 1 (.t 3))⟩, ⟨none, none, (.store 1 (.t 9) (.t 8))⟩]) (.seq (.ops [⟨(some 10), none, (.fieldAddr 2 (.t 1))⟩, ⟨(some 11), none, (.load none (.t 10))⟩, ⟨(some 12), none, (.fieldAddr 2 (.t 3))⟩, ⟨none, none, (.store 1 (.t 12) (.t 11))⟩]) (.seq (.ops [⟨(some 13), none, (.fieldAddr 3 (.t 1))⟩, ⟨(some 14), none, (.load none (.t 13))⟩, ⟨(some 15), none, (.fieldAddr 3 (.t 3))⟩, ⟨none, none, (.store 1 (.t 15) (.t 14))⟩]) (.seq (.ops [⟨(some 16), none, (.fieldAddr 4 (.t 1))⟩, ⟨(some 17), none, (.load none (.t 16))⟩, ⟨(some 18), none, (.fieldAddr 4 (.t 3))⟩, ⟨none, none, (.store 1 (.t 18) (.t 17))⟩]) (.seq (.ops [⟨(some 19), none, (.fieldAddr 5 (.t 1))⟩, ⟨(some 20), none, (.load none (.t 19))⟩, ⟨(some 21), none, (.fieldAddr 5 (.t 3))⟩, ⟨none, none, (.store 1 (.t 21) (.t 20))⟩]) (.seq (.ops [⟨(some 22), none, (.fieldAddr 6 (.t 1))⟩, ⟨(some 23), none, (.load none (.t 22))⟩, ⟨(some 24), none, (.fieldAddr 6 (.t 3))⟩, ⟨none, none, (.store 1 (.t 24) (.t 23))⟩]) (.seq (.ops [⟨(some 25), none, (.load (some 7) (.t 3))⟩, ⟨none, none, (.store 7 (.t 2) (.t 25))⟩]) .ret))))))))))
theorem k_laws_toStewCopy : comp Try.prog 26 (Try.f81.body.getD .skip) = some c_laws_toStewCopy := by kernel_rfl

theorem toStewCopy : ToLOk Try.prog 81 shStewCopy := by
  rintro ts σ ht h1
  obtain ⟨n0, n1, n2, n3, n4, n5, n6, rfl, b0, b1, b2, b3, b4, b6⟩ := isStewCopy ht
  rw [sizeStewCopy] at h1
  refine acalls_of Try.func81 (by decide +kernel) (code := Try.f81.body.getD .skip) (n := 26) (c := c_laws_toStewCopy) (rs := [(.cell 2 (some 7))]) rfl rfl k_laws_toStewCopy (by kernel_rfl) (by simp) (fun hσ => ?_)
  simp -implicitDefEqProofs only [c_laws_toStewCopy, S0, S1, S2, S3, S4, S5, S6, S7, S8, S9, S10, S11, S12, S13, S14, S15, S16, opv, opvs, eget, env0, setD, lenStr, lenSl, isNilP, isNilS, putAt, if_true, if_false, reduceCtorEq, Nat.reduceLeDiff, Nat.reduceEqDiff, Nat.reduceSub, Nat.reduceMul, Nat.reduceAdd]
  exact fin_keep (by simp) ⟨_, _, [], rfl, rfl, (OwnL.str (OwnL.int (OwnL.int (OwnL.int (OwnL.int (OwnL.bool (OwnL.str OwnL.nil0))))))), Wi.nil⟩
theorem toStewCopy_x {n0} {n1} {n2} {n3} {n4} {n5} {n6} (σ : Store) (b0 : n0.length ≤ maxLen) (b1 : (Lit.int .i64 n1).wf = true) (b2 : (Lit.int .i64 n2).wf = true) (b3 : (Lit.int .i64 n3).wf = true) (b4 : (Lit.int .i64 n4).wf = true) (b6 : n6.length ≤ maxLen) (hz : n0.length + n6.length ≤ 1048576) : ACalls Try.prog 81 [.agg [.t (.str n0), .t (.int .i64 n1), .t (.int .i64 n2), .t (.int .i64 n3), .t (.int .i64 n4), .t (.bool n5), .t (.str n6)]] σ (ToLR [(.str n0), (.int .i64 n1), (.int .i64 n2), (.int .i64 n3), (.int .i64 n4), (.bool n5), (.str n6)] σ) := by
  have h := toStewCopy [(.str n0), (.int .i64 n1), (.int .i64 n2), (.int .i64 n3), (.int .i64 n4), (.bool n5), (.str n6)] σ (mkStewCopy b0 b1 b2 b3 b4 b6) (by rw [sizeStewCopy]; omega)
  exact h
theorem i_szStewCopyS : Is Try.prog 36 27 [(.tmp 4)] (tSzS 7 76) := ⟨_, _, Try.func36, by decide +kernel, rfl, rfl, by kernel_rfl, rfl⟩
theorem szStewCopyS : SzOk Try.prog 36 (.sl 7 shStewCopy) := szS_ok rfl i_szStewCopyS szStewCopy
theorem i_eqStewCopyS : Is Try.prog 52 27 [(.tmp 4)] (tEqS 7 84) := ⟨_, _, Try.func52, by decide +kernel, rfl, rfl, by kernel_rfl, rfl⟩
theorem eqStewCopyS : EqOk Try.prog 52 (.sl 7 shStewCopy) := eqS_ok rfl i_eqStewCopyS eqStewCopy
theorem i_toStewCopyS : Is Try.prog 44 23 [(.tmp 2)] (tToS 7 72 81 [.t (.str []), .t (.int .i64 0), .t (.int .i64 0), .t (.int .i64 0), .t (.int .i64 0), .t (.bool false), .t (.str [])]) := ⟨_, _, Try.func44, by decide +kernel, rfl, rfl, by kernel_rfl, rfl⟩
theorem toStewCopyS : ToOk Try.prog 44 (.sl 7 shStewCopy) := toS_ok 72 [.t (.str []), .t (.int .i64 0), .t (.int .i64 0), .t (.int .i64 0), .t (.int .i64 0), .t (.bool false), .t (.str [])] rfl (by decide) rfl (by decide) i_toStewCopyS toStewCopy
def shStewBerth : List Sh := [.str, .bool]
theorem isStewBerth {ts : List T} (ht : T.isL shStewBerth ts) : ∃ n0 n1, ts = [(.str n0), (.bool n1)] ∧ n0.length ≤ maxLen := by
  simp only [shStewBerth, isL_cons, isL_nil, is_int, is_bool, is_str] at ht
  obtain ⟨_, _, rfl, ⟨n0, rfl, b0⟩, _, _, rfl, ⟨n1, rfl⟩, rfl⟩ := ht
  exact ⟨_, _, rfl, b0⟩
theorem mkStewBerth {n0} {n1} (b0 : n0.length ≤ maxLen) : T.isL shStewBerth [(.str n0), (.bool n1)] := by
  simp only [shStewBerth, isL_cons, isL_nil, is_int, is_bool, is_str]
  exact ⟨_, _, rfl, ⟨_, rfl, b0⟩, _, _, rfl, ⟨_, rfl⟩, rfl⟩
theorem sizeStewBerth {n0} {n1} : T.sizeL [(.str n0), (.bool n1)] = n0.length := by
  simp only [sizeL_cons, sizeL_nil, size_int, size_bool, size_str]
  try omega
def c_laws_szStewBerth : C := (.seq (.ops [⟨(some 2), none, (.box (.t 0))⟩, ⟨(some 4), none, (.mv (.c (.t (.int .i64 0))))⟩]) (.seq (.ops [⟨(some 5), none, (.mv (.t 1))⟩, ⟨(some 6), none, (.fieldAddr 0 (.t 2))⟩, ⟨(some 7), none, (.load none (.t 6))⟩, ⟨(some 8), none, (.len true (.t 7))⟩, ⟨(some 9), none, (.bin .sub (.t 5) (.t 8))⟩, ⟨(some 1), none, (.mv (.t 9))⟩]) (.seq (.seq (.ops [⟨(some 10), none, (.mv (.t 1))⟩, ⟨(some 11), none, (.bin .lss (.t 10) (.c (.t (.int .i64 0))))⟩]) (.cond (.t 11) (.seq (.ops [⟨(some 4), none, (.mv (.c (.t (.int .i64 (-1)))))⟩]) .ret) .skip)) (.seq (.ops [⟨(some 12), none, (.mv (.t 1))⟩, ⟨(some 4), none, (.mv (.t 12))⟩]) .ret))))
theorem k_laws_szStewBerth : comp Try.prog 13 (Try.f77.body.getD .skip) = some c_laws_szStewBerth := by kernel_rfl

theorem szStewBerth : SzLOk Try.prog 77 shStewBerth := by
  rintro ts left σ ht h0 h1
  obtain ⟨n0, n1, rfl, b0⟩ := isStewBerth ht
  refine acalls_of Try.func77 (by decide +kernel) (code := Try.f77.body.getD .skip) (n := 13) (c := c_laws_szStewBerth) (rs := [(.tmp 4)]) rfl rfl k_laws_szStewBerth (by kernel_rfl) (by simp) (fun hσ => ?_)
  try simp only [maxLen] at *
  have fin : ∀ {n : Int} {τ : Store}, n ≤ left → (0 ≤ n → ((n0.length : Nat) : Int) + n ≤ left) → retV σ.length (SzR (T.sizeL [(.str n0), (.bool n1)]) left σ) (σ ++ τ) (some [.t (.int .i64 n)]) := fun h h' => ret_same rfl hσ rfl ⟨⟨_, rfl, h, fun h0 => by have := h' h0; rw [sizeStewBerth]; exact this⟩, rfl⟩
  have w0 : IntKind.i64.wrap (left - n0.length) = left - n0.length := IntWalk.i64_in _ (by omega)
  simp -implicitDefEqProofs only [c_laws_szStewBerth, w0, S0, S1, S2, S3, S4, S5, S6, S7, S8, S9, S10, S11, S12, S13, S14, S15, S16, opv, opvs, eget, env0, setD, lenStr, lenSl, isNilP, isNilS, putAt, if_true, if_false, reduceCtorEq, Nat.reduceLeDiff, Nat.reduceEqDiff, Nat.reduceSub, Nat.reduceMul, Nat.reduceAdd]
  refine cond_split (fun h => ?_) (fun h => ?_)
  · simp -implicitDefEqProofs only [S0, S1, S2, S3, S4, S5, S6, S7, S8, S9, S10, S11, S12, S13, S14, S15, S16, opv, opvs, eget, env0, setD, lenStr, lenSl, isNilP, isNilS, putAt, if_true, if_false, reduceCtorEq, Nat.reduceLeDiff, Nat.reduceEqDiff, Nat.reduceSub, Nat.reduceMul, Nat.reduceAdd]
    simp only [decide_eq_true_eq] at h
    exact fin (by omega) (by omega)
  simp only [decide_eq_false_iff_not, Int.not_lt] at h
  simp -implicitDefEqProofs only [S0, S1, S2, S3, S4, S5, S6, S7, S8, S9, S10, S11, S12, S13, S14, S15, S16, opv, opvs, eget, env0, setD, lenStr, lenSl, isNilP, isNilS, putAt, if_true, if_false, reduceCtorEq, Nat.reduceLeDiff, Nat.reduceEqDiff, Nat.reduceSub, Nat.reduceMul, Nat.reduceAdd]
  exact fin (by omega) (fun _ => by omega)
theorem szStewBerth_x {n0} {n1} (left : Int) (σ : Store) (b0 : n0.length ≤ maxLen) (h0 : 0 ≤ left) (h1 : left ≤ 1048576) : ACalls Try.prog 77 [.agg [.t (.str n0), .t (.bool n1)], .t (.int .i64 left)] σ (SzR (T.sizeL [(.str n0), (.bool n1)]) left σ) := by
  have h := szStewBerth [(.str n0), (.bool n1)] left σ (mkStewBerth b0) h0 h1
  exact h
def c_laws_eqStewBerth : C := (.seq (.ops [⟨(some 2), none, (.box (.t 0))⟩, ⟨(some 3), none, (.box (.t 1))⟩, ⟨(some 4), none, (.mv (.c (.t (.bool false))))⟩]) (.seq (.seq (.ops [⟨(some 5), none, (.fieldAddr 0 (.t 2))⟩, ⟨(some 6), none, (.load none (.t 5))⟩, ⟨(some 7), none, (.fieldAddr 0 (.t 3))⟩, ⟨(some 8), none, (.load none (.t 7))⟩, ⟨(some 9), none, (.bin .neq (.t 6) (.t 8))⟩]) (.cond (.t 9) (.seq (.ops [⟨(some 4), none, (.mv (.c (.t (.bool false))))⟩]) .ret) .skip)) (.seq (.seq (.ops [⟨(some 10), none, (.fieldAddr 1 (.t 2))⟩, ⟨(some 11), none, (.load none (.t 10))⟩, ⟨(some 12), none, (.fieldAddr 1 (.t 3))⟩, ⟨(some 13), none, (.load none (.t 12))⟩, ⟨(some 14), none, (.eqB true (.t 11) (.t 13))⟩]) (.cond (.t 14) (.seq (.ops [⟨(some 4), none, (.mv (.c (.t (.bool false))))⟩]) .ret) .skip)) (.seq (.ops [⟨(some 4), none, (.mv (.c (.t (.bool true))))⟩]) .ret))))
theorem k_laws_eqStewBerth : comp Try.prog 15 (Try.f85.body.getD .skip) = some c_laws_eqStewBerth := by kernel_rfl

theorem eqStewBerth : EqLOk Try.prog 85 shStewBerth := by
  rintro ts σ ht h1
  obtain ⟨n0, n1, rfl, b0⟩ := isStewBerth ht
  rw [sizeStewBerth] at h1
  refine acalls_of Try.func85 (by decide +kernel) (code := Try.f85.body.getD .skip) (n := 15) (c := c_laws_eqStewBerth) (rs := [(.tmp 4)]) rfl rfl k_laws_eqStewBerth (by kernel_rfl) (by simp) (fun hσ => ?_)
  simp -implicitDefEqProofs only [c_laws_eqStewBerth, ne_self, beq_self_eq_true, S0, S1, S2, S3, S4, S5, S6, S7, S8, S9, S10, S11, S12, S13, S14, S15, S16, opv, opvs, eget, env0, setD, lenStr, lenSl, isNilP, isNilS, putAt, if_true, if_false, reduceCtorEq, Nat.reduceLeDiff, Nat.reduceEqDiff, Nat.reduceSub, Nat.reduceMul, Nat.reduceAdd]
  exact ret_same rfl hσ rfl ⟨rfl, rfl⟩
theorem eqStewBerth_x {n0} {n1} (σ : Store) (b0 : n0.length ≤ maxLen) (hz : n0.length ≤ 1099511627776) : ACalls Try.prog 85 [.agg [.t (.str n0), .t (.bool n1)], .agg [.t (.str n0), .t (.bool n1)]] σ (TrueR σ) := by
  have h := eqStewBerth [(.str n0), (.bool n1)] σ (mkStewBerth b0) (by rw [sizeStewBerth]; omega)
  exact h
def c_laws_toStewBerth : C := (.seq (.ops [⟨(some 1), none, (.box (.t 0))⟩, ⟨(some 2), none, (.new [(.t (.str [])), (.t (.bool false))])⟩]) (.seq (.ops [⟨(some 3), none, (.new [(.t (.str [])), (.t (.bool false))])⟩]) (.seq (.ops [⟨(some 4), none, (.fieldAddr 0 (.t 1))⟩, ⟨(some 5), none, (.load none (.t 4))⟩, ⟨(some 6), none, (.fieldAddr 0 (.t 3))⟩, ⟨none, none, (.store 1 (.t 6) (.t 5))⟩]) (.seq (.ops [⟨(some 7), none, (.fieldAddr 1 (.t 1))⟩, ⟨(some 8), none, (.load none (.t 7))⟩, ⟨(some 9), none, (.fieldAddr 1 (.t 3))⟩, ⟨none, none, (.store 1 (.t 9) (.t 8))⟩]) (.seq (.ops [⟨(some 10), none, (.load (some 2) (.t 3))⟩, ⟨none, none, (.store 2 (.t 2) (.t 10))⟩]) .ret)))))
theorem k_laws_toStewBerth : comp Try.prog 11 (Try.f82.body.getD .skip) = some c_laws_toStewBerth := by kernel_rfl

theorem toStewBerth : ToLOk Try.prog 82 shStewBerth := by
  rintro ts σ ht h1
  obtain ⟨n0, n1, rfl, b0⟩ := isStewBerth ht
  rw [sizeStewBerth] at h1
  refine acalls_of Try.func82 (by decide +kernel) (code := Try.f82.body.getD .skip) (n := 11) (c := c_laws_toStewBerth) (rs := [(.cell 2 (some 2))]) rfl rfl k_laws_toStewBerth (by kernel_rfl) (by simp) (fun hσ => ?_)
  simp -implicitDefEqProofs only [c_laws_toStewBerth, S0, S1, S2, S3, S4, S5, S6, S7, S8, S9, S10, S11, S12, S13, S14, S15, S16, opv, opvs, eget, env0, setD, lenStr, lenSl, isNilP, isNilS, putAt, if_true, if_false, reduceCtorEq, Nat.reduceLeDiff, Nat.reduceEqDiff, Nat.reduceSub, Nat.reduceMul, Nat.reduceAdd]
  exact fin_keep (by simp) ⟨_, _, [], rfl, rfl, (OwnL.str (OwnL.bool OwnL.nil0)), Wi.nil⟩
theorem toStewBerth_x {n0} {n1} (σ : Store) (b0 : n0.length ≤ maxLen) (hz : n0.length ≤ 1048576) : ACalls Try.prog 82 [.agg [.t (.str n0), .t (.bool n1)]] σ (ToLR [(.str n0), (.bool n1)] σ) := by
  have h := toStewBerth [(.str n0), (.bool n1)] σ (mkStewBerth b0) (by rw [sizeStewBerth]; omega)
  exact h
theorem i_szStewBerthS : Is Try.prog 37 27 [(.tmp 4)] (tSzS 2 77) := ⟨_, _, Try.func37, by decide +kernel, rfl, rfl, by kernel_rfl, rfl⟩
theorem szStewBerthS : SzOk Try.prog 37 (.sl 2 shStewBerth) := szS_ok rfl i_szStewBerthS szStewBerth
theorem i_eqStewBerthS : Is Try.prog 53 27 [(.tmp 4)] (tEqS 2 85) := ⟨_, _, Try.func53, by decide +kernel, rfl, rfl, by kernel_rfl, rfl⟩
theorem eqStewBerthS : EqOk Try.prog 53 (.sl 2 shStewBerth) := eqS_ok rfl i_eqStewBerthS eqStewBerth
theorem i_toStewBerthS : Is Try.prog 45 23 [(.tmp 2)] (tToS 2 24 82 [.t (.str []), .t (.bool false)]) := ⟨_, _, Try.func45, by decide +kernel, rfl, rfl, by kernel_rfl, rfl⟩
theorem toStewBerthS : ToOk Try.prog 45 (.sl 2 shStewBerth) := toS_ok 24 [.t (.str []), .t (.bool false)] rfl (by decide) rfl (by decide) i_toStewBerthS toStewBerth
def shStewBook : List Sh := [.int .i64, .sl 13 shStewService, .sl 7 shStewCopy, .sl 2 shStewBerth]
theorem isStewBook {ts : List T} (ht : T.isL shStewBook ts) : ∃ n0 n1 n2 n3, ts = [(.int .i64 n0), n1, n2, n3] ∧ (Lit.int .i64 n0).wf = true ∧ T.is (.sl 13 shStewService) n1 ∧ T.is (.sl 7 shStewCopy) n2 ∧ T.is (.sl 2 shStewBerth) n3 := by
  simp only [shStewBook, isL_cons, isL_nil, is_int, is_bool, is_str] at ht
  obtain ⟨_, _, rfl, ⟨n0, rfl, b0⟩, n1, _, rfl, b1, n2, _, rfl, b2, n3, _, rfl, b3, rfl⟩ := ht
  exact ⟨_, _, _, _, rfl, b0, b1, b2, b3⟩
theorem mkStewBook {n0} {n1} {n2} {n3} (b0 : (Lit.int .i64 n0).wf = true) (b1 : T.is (.sl 13 shStewService) n1) (b2 : T.is (.sl 7 shStewCopy) n2) (b3 : T.is (.sl 2 shStewBerth) n3) : T.isL shStewBook [(.int .i64 n0), n1, n2, n3] := by
  simp only [shStewBook, isL_cons, isL_nil, is_int, is_bool, is_str]
  exact ⟨_, _, rfl, ⟨_, rfl, b0⟩, _, _, rfl, b1, _, _, rfl, b2, _, _, rfl, b3, rfl⟩
theorem sizeStewBook {n0} {n1} {n2} {n3} : T.sizeL [(.int .i64 n0), n1, n2, n3] = n1.size + n2.size + n3.size := by
  simp only [sizeL_cons, sizeL_nil, size_int, size_bool, size_str]
  try omega
def c_laws_szStewBook : C := (.seq (.ops [⟨(some 2), none, (.box (.t 0))⟩, ⟨(some 4), none, (.mv (.c (.t (.int .i64 0))))⟩]) (.seq (.ops [⟨(some 5), none, (.fieldAddr 1 (.t 2))⟩, ⟨(some 6), none, (.load none (.t 5))⟩, ⟨(some 7), none, (.mv (.t 1))⟩, ⟨(some 8), none, (.call (.c (.fn (.func 35) [])) [(.t 6), (.t 7)])⟩, ⟨(some 1), none, (.mv (.t 8))⟩]) (.seq (.seq (.ops [⟨(some 9), none, (.mv (.t 1))⟩, ⟨(some 10), none, (.bin .lss (.t 9) (.c (.t (.int .i64 0))))⟩]) (.cond (.t 10) (.seq (.ops [⟨(some 4), none, (.mv (.c (.t (.int .i64 (-1)))))⟩]) .ret) .skip)) (.seq (.ops [⟨(some 11), none, (.fieldAddr 2 (.t 2))⟩, ⟨(some 12), none, (.load none (.t 11))⟩, ⟨(some 13), none, (.mv (.t 1))⟩, ⟨(some 14), none, (.call (.c (.fn (.func 36) [])) [(.t 12), (.t 13)])⟩, ⟨(some 1), none, (.mv (.t 14))⟩]) (.seq (.seq (.ops [⟨(some 15), none, (.mv (.t 1))⟩, ⟨(some 16), none, (.bin .lss (.t 15) (.c (.t (.int .i64 0))))⟩]) (.cond (.t 16) (.seq (.ops [⟨(some 4), none, (.mv (.c (.t (.int .i64 (-1)))))⟩]) .ret) .skip)) (.seq (.ops [⟨(some 17), none, (.fieldAddr 3 (.t 2))⟩, ⟨(some 18), none, (.load none (.t 17))⟩, ⟨(some 19), none, (.mv (.t 1))⟩, ⟨(some 20), none, (.call (.c (.fn (.func 37) [])) [(.t 18), (.t 19)])⟩, ⟨(some 1), none, (.mv (.t 20))⟩]) (.seq (.seq (.ops [⟨(some 21), none, (.mv (.t 1))⟩, ⟨(some 22), none, (.bin .lss (.t 21) (.c (.t (.int .i64 0))))⟩]) (.cond (.t 22) (.seq (.ops [⟨(some 4), none, (.mv (.c (.t (.int .i64 (-1)))))⟩]) .ret) .skip)) (.seq (.ops [⟨(some 23), none, (.mv (.t 1))⟩, ⟨(some 4), none, (.mv (.t 23))⟩]) .ret))))))))
theorem k_laws_szStewBook : comp Try.prog 24 (Try.f10.body.getD .skip) = some c_laws_szStewBook := by kernel_rfl

theorem szStewBook : SzLOk Try.prog 10 shStewBook := by
  rintro ts left σ ht h0 h1
  obtain ⟨n0, n1, n2, n3, rfl, b0, b1, b2, b3⟩ := isStewBook ht
  refine acalls_of Try.func10 (by decide +kernel) (code := Try.f10.body.getD .skip) (n := 24) (c := c_laws_szStewBook) (rs := [(.tmp 4)]) rfl rfl k_laws_szStewBook (by kernel_rfl) (by simp) (fun hσ => ?_)
  try simp only [maxLen] at *
  have fin : ∀ {n : Int} {τ : Store}, n ≤ left → (0 ≤ n → ((n1.size + n2.size + n3.size : Nat) : Int) + n ≤ left) → retV σ.length (SzR (T.sizeL [(.int .i64 n0), n1, n2, n3]) left σ) (σ ++ τ) (some [.t (.int .i64 n)]) := fun h h' => ret_same rfl hσ rfl ⟨⟨_, rfl, h, fun h0 => by have := h' h0; rw [sizeStewBook]; exact this⟩, rfl⟩
  simp -implicitDefEqProofs only [c_laws_szStewBook, S0, S1, S2, S3, S4, S5, S6, S7, S8, S9, S10, S11, S12, S13, S14, S15, S16, opv, opvs, eget, env0, setD, lenStr, lenSl, isNilP, isNilS, putAt, if_true, if_false, reduceCtorEq, Nat.reduceLeDiff, Nat.reduceEqDiff, Nat.reduceSub, Nat.reduceMul, Nat.reduceAdd]
  refine call_by (by rw [List.append_nil]; exact szStewServiceS n1 left _ b1 (by omega) (by omega)) ?_
  rintro r σ' ⟨⟨m1, rfl, hm1, hs1⟩, rfl⟩
  try simp only [sizeStewBook] at hs1
  simp -implicitDefEqProofs only [S0, S1, S2, S3, S4, S5, S6, S7, S8, S9, S10, S11, S12, S13, S14, S15, S16, opv, opvs, eget, env0, setD, lenStr, lenSl, isNilP, isNilS, putAt, if_true, if_false, reduceCtorEq, Nat.reduceLeDiff, Nat.reduceEqDiff, Nat.reduceSub, Nat.reduceMul, Nat.reduceAdd]
  refine cond_split (fun h => ?_) (fun h => ?_)
  · simp -implicitDefEqProofs only [S0, S1, S2, S3, S4, S5, S6, S7, S8, S9, S10, S11, S12, S13, S14, S15, S16, opv, opvs, eget, env0, setD, lenStr, lenSl, isNilP, isNilS, putAt, if_true, if_false, reduceCtorEq, Nat.reduceLeDiff, Nat.reduceEqDiff, Nat.reduceSub, Nat.reduceMul, Nat.reduceAdd]
    simp only [decide_eq_true_eq] at h
    exact fin (by omega) (by omega)
  simp only [decide_eq_false_iff_not, Int.not_lt] at h
  replace hs1 := hs1 h
  simp -implicitDefEqProofs only [S0, S1, S2, S3, S4, S5, S6, S7, S8, S9, S10, S11, S12, S13, S14, S15, S16, opv, opvs, eget, env0, setD, lenStr, lenSl, isNilP, isNilS, putAt, if_true, if_false, reduceCtorEq, Nat.reduceLeDiff, Nat.reduceEqDiff, Nat.reduceSub, Nat.reduceMul, Nat.reduceAdd]
  refine call_by (by rw [List.append_nil]; exact szStewCopyS n2 m1 _ b2 (by omega) (by omega)) ?_
  rintro r σ' ⟨⟨m2, rfl, hm2, hs2⟩, rfl⟩
  try simp only [sizeStewBook] at hs2
  simp -implicitDefEqProofs only [S0, S1, S2, S3, S4, S5, S6, S7, S8, S9, S10, S11, S12, S13, S14, S15, S16, opv, opvs, eget, env0, setD, lenStr, lenSl, isNilP, isNilS, putAt, if_true, if_false, reduceCtorEq, Nat.reduceLeDiff, Nat.reduceEqDiff, Nat.reduceSub, Nat.reduceMul, Nat.reduceAdd]
  refine cond_split (fun h => ?_) (fun h => ?_)
  · simp -implicitDefEqProofs only [S0, S1, S2, S3, S4, S5, S6, S7, S8, S9, S10, S11, S12, S13, S14, S15, S16, opv, opvs, eget, env0, setD, lenStr, lenSl, isNilP, isNilS, putAt, if_true, if_false, reduceCtorEq, Nat.reduceLeDiff, Nat.reduceEqDiff, Nat.reduceSub, Nat.reduceMul, Nat.reduceAdd]
    simp only [decide_eq_true_eq] at h
    exact fin (by omega) (by omega)
  simp only [decide_eq_false_iff_not, Int.not_lt] at h
  replace hs2 := hs2 h
  simp -implicitDefEqProofs only [S0, S1, S2, S3, S4, S5, S6, S7, S8, S9, S10, S11, S12, S13, S14, S15, S16, opv, opvs, eget, env0, setD, lenStr, lenSl, isNilP, isNilS, putAt, if_true, if_false, reduceCtorEq, Nat.reduceLeDiff, Nat.reduceEqDiff, Nat.reduceSub, Nat.reduceMul, Nat.reduceAdd]
  refine call_by (by rw [List.append_nil]; exact szStewBerthS n3 m2 _ b3 (by omega) (by omega)) ?_
  rintro r σ' ⟨⟨m3, rfl, hm3, hs3⟩, rfl⟩
  try simp only [sizeStewBook] at hs3
  simp -implicitDefEqProofs only [S0, S1, S2, S3, S4, S5, S6, S7, S8, S9, S10, S11, S12, S13, S14, S15, S16, opv, opvs, eget, env0, setD, lenStr, lenSl, isNilP, isNilS, putAt, if_true, if_false, reduceCtorEq, Nat.reduceLeDiff, Nat.reduceEqDiff, Nat.reduceSub, Nat.reduceMul, Nat.reduceAdd]
  refine cond_split (fun h => ?_) (fun h => ?_)
  · simp -implicitDefEqProofs only [S0, S1, S2, S3, S4, S5, S6, S7, S8, S9, S10, S11, S12, S13, S14, S15, S16, opv, opvs, eget, env0, setD, lenStr, lenSl, isNilP, isNilS, putAt, if_true, if_false, reduceCtorEq, Nat.reduceLeDiff, Nat.reduceEqDiff, Nat.reduceSub, Nat.reduceMul, Nat.reduceAdd]
    simp only [decide_eq_true_eq] at h
    exact fin (by omega) (by omega)
  simp only [decide_eq_false_iff_not, Int.not_lt] at h
  replace hs3 := hs3 h
  simp -implicitDefEqProofs only [S0, S1, S2, S3, S4, S5, S6, S7, S8, S9, S10, S11, S12, S13, S14, S15, S16, opv, opvs, eget, env0, setD, lenStr, lenSl, isNilP, isNilS, putAt, if_true, if_false, reduceCtorEq, Nat.reduceLeDiff, Nat.reduceEqDiff, Nat.reduceSub, Nat.reduceMul, Nat.reduceAdd]
  exact fin (by omega) (fun _ => by omega)
theorem szStewBook_x {n0} {n1} {n2} {n3} (left : Int) (σ : Store) (b0 : (Lit.int .i64 n0).wf = true) (b1 : T.is (.sl 13 shStewService) n1) (b2 : T.is (.sl 7 shStewCopy) n2) (b3 : T.is (.sl 2 shStewBerth) n3) (h0 : 0 ≤ left) (h1 : left ≤ 1048576) : ACalls Try.prog 10 [.agg [.t (.int .i64 n0), .t n1, .t n2, .t n3], .t (.int .i64 left)] σ (SzR (T.sizeL [(.int .i64 n0), n1, n2, n3]) left σ) := by
  have h := szStewBook [(.int .i64 n0), n1, n2, n3] left σ (mkStewBook b0 b1 b2 b3) h0 h1
  exact h
def c_laws_eqStewBook : C := (.seq (.ops [⟨(some 2), none, (.box (.t 0))⟩, ⟨(some 3), none, (.box (.t 1))⟩, ⟨(some 4), none, (.mv (.c (.t (.bool false))))⟩]) (.seq (.seq (.ops [⟨(some 5), none, (.fieldAddr 0 (.t 2))⟩, ⟨(some 6), none, (.load none (.t 5))⟩, ⟨(some 7), none, (.fieldAddr 0 (.t 3))⟩, ⟨(some 8), none, (.load none (.t 7))⟩, ⟨(some 9), none, (.bin .neq (.t 6) (.t 8))⟩]) (.cond (.t 9) (.seq (.ops [⟨(some 4), none, (.mv (.c (.t (.bool false))))⟩]) .ret) .skip)) (.seq (.seq (.ops [⟨(some 10), none, (.fieldAddr 1 (.t 2))⟩, ⟨(some 11), none, (.load none (.t 10))⟩, ⟨(some 12), none, (.fieldAddr 1 (.t 3))⟩, ⟨(some 13), none, (.load none (.t 12))⟩, ⟨(some 14), none, (.call (.c (.fn (.func 51) [])) [(.t 11), (.t 13)])⟩, ⟨(some 15), none, (.un .not (.t 14))⟩]) (.cond (.t 15) (.seq (.ops [⟨(some 4), none, (.mv (.c (.t (.bool false))))⟩]) .ret) .skip)) (.seq (.seq (.ops [⟨(some 16), none, (.fieldAddr 2 (.t 2))⟩, ⟨(some 17), none, (.load none (.t 16))⟩, ⟨(some 18), none, (.fieldAddr 2 (.t 3))⟩, ⟨(some 19), none, (.load none (.t 18))⟩, ⟨(some 20), none, (.call (.c (.fn (.func 52) [])) [(.t 17), (.t 19)])⟩, ⟨(some 21), none, (.un .not (.t 20))⟩]) (.cond (.t 21) (.seq (.ops [⟨(some 4), none, (.mv (.c (.t (.bool false))))⟩]) .ret) .skip)) (.seq (.seq (.ops [⟨(some 22), none, (.fieldAddr 3 (.t 2))⟩, ⟨(some 23), none, (.load none (.t 22))⟩, ⟨(some 24), none, (.fieldAddr 3 (.t 3))⟩, ⟨(some 25), none, (.load none (.t 24))⟩, ⟨(some 26), none, (.call (.c (.fn (.func 53) [])) [(.t 23), (.t 25)])⟩, ⟨(some 27), none, (.un .not (.t 26))⟩]) (.cond (.t 27) (.seq (.ops [⟨(some 4), none, (.mv (.c (.t (.bool false))))⟩]) .ret) .skip)) (.seq (.ops [⟨(some 4), none, (.mv (.c (.t (.bool true))))⟩]) .ret))))))
theorem k_laws_eqStewBook : comp Try.prog 28 (Try.f14.body.getD .skip) = some c_laws_eqStewBook := by kernel_rfl

theorem eqStewBook : EqLOk Try.prog 14 shStewBook := by
  rintro ts σ ht h1
  obtain ⟨n0, n1, n2, n3, rfl, b0, b1, b2, b3⟩ := isStewBook ht
  rw [sizeStewBook] at h1
  refine acalls_of Try.func14 (by decide +kernel) (code := Try.f14.body.getD .skip) (n := 28) (c := c_laws_eqStewBook) (rs := [(.tmp 4)]) rfl rfl k_laws_eqStewBook (by kernel_rfl) (by simp) (fun hσ => ?_)
  simp -implicitDefEqProofs only [c_laws_eqStewBook, ne_self, beq_self_eq_true, S0, S1, S2, S3, S4, S5, S6, S7, S8, S9, S10, S11, S12, S13, S14, S15, S16, opv, opvs, eget, env0, setD, lenStr, lenSl, isNilP, isNilS, putAt, if_true, if_false, reduceCtorEq, Nat.reduceLeDiff, Nat.reduceEqDiff, Nat.reduceSub, Nat.reduceMul, Nat.reduceAdd]
  refine call_pure (eqStewServiceS n1 _ b1 (by omega)) ?_
  simp -implicitDefEqProofs only [ne_self, beq_self_eq_true, S0, S1, S2, S3, S4, S5, S6, S7, S8, S9, S10, S11, S12, S13, S14, S15, S16, opv, opvs, eget, env0, setD, lenStr, lenSl, isNilP, isNilS, putAt, if_true, if_false, reduceCtorEq, Nat.reduceLeDiff, Nat.reduceEqDiff, Nat.reduceSub, Nat.reduceMul, Nat.reduceAdd]
  refine call_pure (eqStewCopyS n2 _ b2 (by omega)) ?_
  simp -implicitDefEqProofs only [ne_self, beq_self_eq_true, S0, S1, S2, S3, S4, S5, S6, S7, S8, S9, S10, S11, S12, S13, S14, S15, S16, opv, opvs, eget, env0, setD, lenStr, lenSl, isNilP, isNilS, putAt, if_true, if_false, reduceCtorEq, Nat.reduceLeDiff, Nat.reduceEqDiff, Nat.reduceSub, Nat.reduceMul, Nat.reduceAdd]
  refine call_pure (eqStewBerthS n3 _ b3 (by omega)) ?_
  simp -implicitDefEqProofs only [ne_self, beq_self_eq_true, S0, S1, S2, S3, S4, S5, S6, S7, S8, S9, S10, S11, S12, S13, S14, S15, S16, opv, opvs, eget, env0, setD, lenStr, lenSl, isNilP, isNilS, putAt, if_true, if_false, reduceCtorEq, Nat.reduceLeDiff, Nat.reduceEqDiff, Nat.reduceSub, Nat.reduceMul, Nat.reduceAdd]
  exact ret_same rfl hσ rfl ⟨rfl, rfl⟩
theorem eqStewBook_x {n0} {n1} {n2} {n3} (σ : Store) (b0 : (Lit.int .i64 n0).wf = true) (b1 : T.is (.sl 13 shStewService) n1) (b2 : T.is (.sl 7 shStewCopy) n2) (b3 : T.is (.sl 2 shStewBerth) n3) (hz : n1.size + n2.size + n3.size ≤ 1099511627776) : ACalls Try.prog 14 [.agg [.t (.int .i64 n0), .t n1, .t n2, .t n3], .agg [.t (.int .i64 n0), .t n1, .t n2, .t n3]] σ (TrueR σ) := by
  have h := eqStewBook [(.int .i64 n0), n1, n2, n3] σ (mkStewBook b0 b1 b2 b3) (by rw [sizeStewBook]; omega)
  exact h
def c_laws_toStewBook : C := (.seq (.ops [⟨(some 1), none, (.box (.t 0))⟩, ⟨(some 2), none, (.new [(.t (.int .i64 0)), .nils, .nils, .nils])⟩]) (.seq (.ops [⟨(some 3), none, (.new [(.t (.int .i64 0)), .nils, .nils, .nils])⟩]) (.seq (.ops [⟨(some 4), none, (.fieldAddr 0 (.t 1))⟩, ⟨(some 5), none, (.load none (.t 4))⟩, ⟨(some 6), none, (.fieldAddr 0 (.t 3))⟩, ⟨none, none, (.store 1 (.t 6) (.t 5))⟩]) (.seq (.ops [⟨(some 7), none, (.fieldAddr 1 (.t 1))⟩, ⟨(some 8), none, (.load none (.t 7))⟩, ⟨(some 9), none, (.call (.c (.fn (.func 43) [])) [(.t 8)])⟩, ⟨(some 10), none, (.fieldAddr 1 (.t 3))⟩, ⟨none, none, (.store 1 (.t 10) (.t 9))⟩]) (.seq (.ops [⟨(some 11), none, (.fieldAddr 2 (.t 1))⟩, ⟨(some 12), none, (.load none (.t 11))⟩, ⟨(some 13), none, (.call (.c (.fn (.func 44) [])) [(.t 12)])⟩, ⟨(some 14), none, (.fieldAddr 2 (.t 3))⟩, ⟨none, none, (.store 1 (.t 14) (.t 13))⟩]) (.seq (.ops [⟨(some 15), none, (.fieldAddr 3 (.t 1))⟩, ⟨(some 16), none, (.load none (.t 15))⟩, ⟨(some 17), none, (.call (.c (.fn (.func 45) [])) [(.t 16)])⟩, ⟨(some 18), none, (.fieldAddr 3 (.t 3))⟩, ⟨none, none, (.store 1 (.t 18) (.t 17))⟩]) (.seq (.ops [⟨(some 19), none, (.load (some 4) (.t 3))⟩, ⟨none, none, (.store 4 (.t 2) (.t 19))⟩]) .ret)))))))
theorem k_laws_toStewBook : comp Try.prog 20 (Try.f12.body.getD .skip) = some c_laws_toStewBook := by kernel_rfl

theorem toStewBook : ToLOk Try.prog 12 shStewBook := by
  rintro ts σ ht h1
  obtain ⟨n0, n1, n2, n3, rfl, b0, b1, b2, b3⟩ := isStewBook ht
  rw [sizeStewBook] at h1
  refine acalls_of Try.func12 (by decide +kernel) (code := Try.f12.body.getD .skip) (n := 20) (c := c_laws_toStewBook) (rs := [(.cell 2 (some 4))]) rfl rfl k_laws_toStewBook (by kernel_rfl) (by simp) (fun hσ => ?_)
  simp -implicitDefEqProofs only [c_laws_toStewBook, S0, S1, S2, S3, S4, S5, S6, S7, S8, S9, S10, S11, S12, S13, S14, S15, S16, opv, opvs, eget, env0, setD, lenStr, lenSl, isNilP, isNilS, putAt, if_true, if_false, reduceCtorEq, Nat.reduceLeDiff, Nat.reduceEqDiff, Nat.reduceSub, Nat.reduceMul, Nat.reduceAdd]
  refine call_by (by rw [List.append_nil]; exact toStewServiceS n1 _ b1 (by omega)) ?_
  rintro u1 σ' ⟨τ1, j1, rfl, o1, w1⟩
  have e1 := o1.one
  simp -implicitDefEqProofs only [one_cells e1, e1, S0, S1, S2, S3, S4, S5, S6, S7, S8, S9, S10, S11, S12, S13, S14, S15, S16, opv, opvs, eget, env0, setD, lenStr, lenSl, isNilP, isNilS, putAt, if_true, if_false, reduceCtorEq, Nat.reduceLeDiff, Nat.reduceEqDiff, Nat.reduceSub, Nat.reduceMul, Nat.reduceAdd]
  refine call_by (by rw [List.append_nil]; exact toStewCopyS n2 _ b2 (by omega)) ?_
  rintro u2 σ' ⟨τ2, j2, rfl, o2, w2⟩
  have e2 := o2.one
  simp -implicitDefEqProofs only [one_cells e2, e1, e2, S0, S1, S2, S3, S4, S5, S6, S7, S8, S9, S10, S11, S12, S13, S14, S15, S16, opv, opvs, eget, env0, setD, lenStr, lenSl, isNilP, isNilS, putAt, if_true, if_false, reduceCtorEq, Nat.reduceLeDiff, Nat.reduceEqDiff, Nat.reduceSub, Nat.reduceMul, Nat.reduceAdd]
  refine call_by (by rw [List.append_nil]; exact toStewBerthS n3 _ b3 (by omega)) ?_
  rintro u3 σ' ⟨τ3, j3, rfl, o3, w3⟩
  have e3 := o3.one
  simp -implicitDefEqProofs only [one_cells e3, e1, e2, e3, S0, S1, S2, S3, S4, S5, S6, S7, S8, S9, S10, S11, S12, S13, S14, S15, S16, opv, opvs, eget, env0, setD, lenStr, lenSl, isNilP, isNilS, putAt, if_true, if_false, reduceCtorEq, Nat.reduceLeDiff, Nat.reduceEqDiff, Nat.reduceSub, Nat.reduceMul, Nat.reduceAdd]
  refine fin_keep (by simp) ⟨_, _, (j1 ++ (j2 ++ (j3 ++ []))), rfl, rfl, (OwnL.int (OwnL.lst (own_pre (A := [_, _, _]) (A' := [_, _, _]) (B := τ1) (B' := (τ1 ++ (τ2 ++ τ3))) o1 w1 (List.append_assoc ..) rfl rfl (by simp) (by simp)) (OwnL.lst (own_pre (A := [_, _, _]) (A' := [_, _, _]) (B := (τ1 ++ τ2)) (B' := (τ1 ++ (τ2 ++ τ3))) o2 w2 (List.append_assoc ..) rfl rfl (by simp) (by simp)) (OwnL.lst (own_pre (A := [_, _, _]) (A' := [_, _, _]) (B := ((τ1 ++ τ2) ++ τ3)) (B' := (τ1 ++ (τ2 ++ τ3))) o3 w3 (List.append_assoc ..) rfl rfl (by simp) (by simp)) OwnL.nil0)))), ?_⟩
  simp only [List.length_append, List.length_cons, List.length_nil] at w1 w2 w3 ⊢
  refine Wi.mono (a := σ.length) ?_ (Nat.le_refl _) (Nat.le_refl _)
  exact wi_more w1 (wi_more w2 (wi_last w3 (by omega) (by omega)) (by omega) (by omega)) (by omega) (by omega)
theorem toStewBook_x {n0} {n1} {n2} {n3} (σ : Store) (b0 : (Lit.int .i64 n0).wf = true) (b1 : T.is (.sl 13 shStewService) n1) (b2 : T.is (.sl 7 shStewCopy) n2) (b3 : T.is (.sl 2 shStewBerth) n3) (hz : n1.size + n2.size + n3.size ≤ 1048576) : ACalls Try.prog 12 [.agg [.t (.int .i64 n0), .t n1, .t n2, .t n3]] σ (ToLR [(.int .i64 n0), n1, n2, n3] σ) := by
  have h := toStewBook [(.int .i64 n0), n1, n2, n3] σ (mkStewBook b0 b1 b2 b3) (by rw [sizeStewBook]; omega)
  exact h
theorem i_szStewBookS : Is Try.prog 54 27 [(.tmp 4)] (tSzS 4 10) := ⟨_, _, Try.func54, by decide +kernel, rfl, rfl, by kernel_rfl, rfl⟩
theorem szStewBookS : SzOk Try.prog 54 (.sl 4 shStewBook) := szS_ok rfl i_szStewBookS szStewBook
theorem i_eqStewBookS : Is Try.prog 56 27 [(.tmp 4)] (tEqS 4 14) := ⟨_, _, Try.func56, by decide +kernel, rfl, rfl, by kernel_rfl, rfl⟩
theorem eqStewBookS : EqOk Try.prog 56 (.sl 4 shStewBook) := eqS_ok rfl i_eqStewBookS eqStewBook
theorem i_toStewBookS : Is Try.prog 55 23 [(.tmp 2)] (tToS 4 80 12 [.t (.int .i64 0), .nils, .nils, .nils]) := ⟨_, _, Try.func55, by decide +kernel, rfl, rfl, by kernel_rfl, rfl⟩
theorem toStewBookS : ToOk Try.prog 55 (.sl 4 shStewBook) := toS_ok 80 [.t (.int .i64 0), .nils, .nils, .nils] rfl (by decide) rfl (by decide) i_toStewBookS toStewBook
end Go.Proofs.Ytabakekeicbpbaa.W

end


section
open Go Go.Ab
namespace Go.Proofs.Ytabakekeicbpbaa.W
structure StewService where
  Name : List UInt8
  Version : Int
  Gone : Bool
  Image : Int
  Want : Int
  Down : Int
  Over : Int
  Next : Int
  Per : Int
  Least : Int
  Most : Int
  Load : Int
  Cool : Int
def StewService.ts (x : StewService) : List T := [.str x.Name, .int .i64 x.Version, .bool x.Gone, .int .i64 x.Image, .int .i64 x.Want, .int .i64 x.Down, .int .i64 x.Over, .int .i64 x.Next, .int .i64 x.Per, .int .i64 x.Least, .int .i64 x.Most, .int .i64 x.Load, .int .i64 x.Cool]
abbrev StewService.vs (x : StewService) : List V := [.t (.str x.Name), .t (.int .i64 x.Version), .t (.bool x.Gone), .t (.int .i64 x.Image), .t (.int .i64 x.Want), .t (.int .i64 x.Down), .t (.int .i64 x.Over), .t (.int .i64 x.Next), .t (.int .i64 x.Per), .t (.int .i64 x.Least), .t (.int .i64 x.Most), .t (.int .i64 x.Load), .t (.int .i64 x.Cool)]
theorem StewService.vs_ts (x : StewService) : x.ts.map V.t = x.vs := rfl
structure StewService.Ok (x : StewService) : Prop where
  Name : x.Name.length ≤ 1048576
  Version : i64r x.Version
  Image : i64r x.Image
  Want : i64r x.Want
  Down : i64r x.Down
  Over : i64r x.Over
  Next : i64r x.Next
  Per : i64r x.Per
  Least : i64r x.Least
  Most : i64r x.Most
  Load : i64r x.Load
  Cool : i64r x.Cool
abbrev tStewServiceS (l : List StewService) : T := .lst 13 (l.map StewService.ts)
abbrev StewService.OkS (l : List StewService) : Prop := l.length ≤ 1048576 ∧ ∀ y ∈ l, y.Ok
theorem of_StewService {ts : List T} (h : T.isL shStewService ts) : ∃ x : StewService, ts = x.ts ∧ (T.sizeL ts ≤ 1048576 → x.Ok) := by
  obtain ⟨n0, n1, n2, n3, n4, n5, n6, n7, n8, n9, n10, n11, n12, rfl, b0, b1, b3, b4, b5, b6, b7, b8, b9, b10, b11, b12⟩ := isStewService h
  refine ⟨⟨n0, n1, n2, n3, n4, n5, n6, n7, n8, n9, n10, n11, n12⟩, rfl, fun hz => ?_⟩
  rw [sizeStewService] at hz
  exact ⟨by simp only; omega, wf_i64 b1, wf_i64 b3, wf_i64 b4, wf_i64 b5, wf_i64 b6, wf_i64 b7, wf_i64 b8, wf_i64 b9, wf_i64 b10, wf_i64 b11, wf_i64 b12⟩
theorem of_StewServiceS {t : T} (h : T.is (.sl 13 shStewService) t) : ∃ l : List StewService, t = .lst 13 (l.map StewService.ts) ∧ (t.size ≤ 1048576 → StewService.OkS l) := of_list (fun ts h => of_StewService h) h
structure StewCopy where
  Service : List UInt8
  Number : Int
  Version : Int
  Image : Int
  State : Int
  Ending : Bool
  Berth : List UInt8
def StewCopy.ts (x : StewCopy) : List T := [.str x.Service, .int .i64 x.Number, .int .i64 x.Version, .int .i64 x.Image, .int .i64 x.State, .bool x.Ending, .str x.Berth]
abbrev StewCopy.vs (x : StewCopy) : List V := [.t (.str x.Service), .t (.int .i64 x.Number), .t (.int .i64 x.Version), .t (.int .i64 x.Image), .t (.int .i64 x.State), .t (.bool x.Ending), .t (.str x.Berth)]
theorem StewCopy.vs_ts (x : StewCopy) : x.ts.map V.t = x.vs := rfl
structure StewCopy.Ok (x : StewCopy) : Prop where
  Service : x.Service.length ≤ 1048576
  Number : i64r x.Number
  Version : i64r x.Version
  Image : i64r x.Image
  State : i64r x.State
  Berth : x.Berth.length ≤ 1048576
abbrev tStewCopyS (l : List StewCopy) : T := .lst 7 (l.map StewCopy.ts)
abbrev StewCopy.OkS (l : List StewCopy) : Prop := l.length ≤ 1048576 ∧ ∀ y ∈ l, y.Ok
theorem of_StewCopy {ts : List T} (h : T.isL shStewCopy ts) : ∃ x : StewCopy, ts = x.ts ∧ (T.sizeL ts ≤ 1048576 → x.Ok) := by
  obtain ⟨n0, n1, n2, n3, n4, n5, n6, rfl, b0, b1, b2, b3, b4, b6⟩ := isStewCopy h
  refine ⟨⟨n0, n1, n2, n3, n4, n5, n6⟩, rfl, fun hz => ?_⟩
  rw [sizeStewCopy] at hz
  exact ⟨by simp only; omega, wf_i64 b1, wf_i64 b2, wf_i64 b3, wf_i64 b4, by simp only; omega⟩
theorem of_StewCopyS {t : T} (h : T.is (.sl 7 shStewCopy) t) : ∃ l : List StewCopy, t = .lst 7 (l.map StewCopy.ts) ∧ (t.size ≤ 1048576 → StewCopy.OkS l) := of_list (fun ts h => of_StewCopy h) h
structure StewBerth where
  Name : List UInt8
  Drain : Bool
def StewBerth.ts (x : StewBerth) : List T := [.str x.Name, .bool x.Drain]
abbrev StewBerth.vs (x : StewBerth) : List V := [.t (.str x.Name), .t (.bool x.Drain)]
theorem StewBerth.vs_ts (x : StewBerth) : x.ts.map V.t = x.vs := rfl
structure StewBerth.Ok (x : StewBerth) : Prop where
  Name : x.Name.length ≤ 1048576
abbrev tStewBerthS (l : List StewBerth) : T := .lst 2 (l.map StewBerth.ts)
abbrev StewBerth.OkS (l : List StewBerth) : Prop := l.length ≤ 1048576 ∧ ∀ y ∈ l, y.Ok
theorem of_StewBerth {ts : List T} (h : T.isL shStewBerth ts) : ∃ x : StewBerth, ts = x.ts ∧ (T.sizeL ts ≤ 1048576 → x.Ok) := by
  obtain ⟨n0, n1, rfl, b0⟩ := isStewBerth h
  refine ⟨⟨n0, n1⟩, rfl, fun hz => ?_⟩
  rw [sizeStewBerth] at hz
  exact ⟨by simp only; omega⟩
theorem of_StewBerthS {t : T} (h : T.is (.sl 2 shStewBerth) t) : ∃ l : List StewBerth, t = .lst 2 (l.map StewBerth.ts) ∧ (t.size ≤ 1048576 → StewBerth.OkS l) := of_list (fun ts h => of_StewBerth h) h
structure StewBook where
  Now : Int
  Services : List StewService
  Copies : List StewCopy
  Berths : List StewBerth
def StewBook.ts (x : StewBook) : List T := [.int .i64 x.Now, .lst 13 (x.Services.map StewService.ts), .lst 7 (x.Copies.map StewCopy.ts), .lst 2 (x.Berths.map StewBerth.ts)]
abbrev StewBook.vs (x : StewBook) : List V := [.t (.int .i64 x.Now), .t (.lst 13 (x.Services.map StewService.ts)), .t (.lst 7 (x.Copies.map StewCopy.ts)), .t (.lst 2 (x.Berths.map StewBerth.ts))]
theorem StewBook.vs_ts (x : StewBook) : x.ts.map V.t = x.vs := rfl
structure StewBook.Ok (x : StewBook) : Prop where
  Now : i64r x.Now
  Services : StewService.OkS x.Services
  Copies : StewCopy.OkS x.Copies
  Berths : StewBerth.OkS x.Berths
abbrev tStewBookS (l : List StewBook) : T := .lst 4 (l.map StewBook.ts)
abbrev StewBook.OkS (l : List StewBook) : Prop := l.length ≤ 1048576 ∧ ∀ y ∈ l, y.Ok
theorem of_StewBook {ts : List T} (h : T.isL shStewBook ts) : ∃ x : StewBook, ts = x.ts ∧ (T.sizeL ts ≤ 1048576 → x.Ok) := by
  obtain ⟨n0, n1, n2, n3, rfl, b0, b1, b2, b3⟩ := isStewBook h
  obtain ⟨l1, rfl, c1⟩ := of_StewServiceS b1
  obtain ⟨l2, rfl, c2⟩ := of_StewCopyS b2
  obtain ⟨l3, rfl, c3⟩ := of_StewBerthS b3
  refine ⟨⟨n0, l1, l2, l3⟩, rfl, fun hz => ?_⟩
  rw [sizeStewBook] at hz
  exact ⟨wf_i64 b0, c1 (by omega), c2 (by omega), c3 (by omega)⟩
theorem of_StewBookS {t : T} (h : T.is (.sl 4 shStewBook) t) : ∃ l : List StewBook, t = .lst 4 (l.map StewBook.ts) ∧ (t.size ≤ 1048576 → StewBook.OkS l) := of_list (fun ts h => of_StewBook h) h
end Go.Proofs.Ytabakekeicbpbaa.W

end
