/- What the laws' own helpers do with these structs: sizes, copies, comparing (printed by laws.py). Conditions: none. -/
/- The program's structs as Lean structures, their trees (printed by types.py). Conditions: none. -/
import Derived.Test.YtnnnemgbgilfaaaDoorAb3
import Derived.IntWalk
import Derived.Test.YtnnnemgbgilfaaaDoorProg
import Derived.KernelRfl
set_option linter.unusedSimpArgs false
set_option linter.unusedVariables false
set_option linter.defProp false

section
open Go Go.Ab
set_option maxHeartbeats 4000000
set_option maxRecDepth 20000
namespace Go.Proofs.YtnnnemgbgilfaaaDoor.W
theorem i_szStringS : Is Tryd.prog 119 28 [(.tmp 4)] (tSzStr) := ⟨_, _, Tryd.func119, by decide +kernel, rfl, rfl, by kernel_rfl, rfl⟩
theorem szStringS : SzOk Tryd.prog 119 (.sl 1 [.str]) := szStr_ok i_szStringS
theorem i_eqStringS : Is Tryd.prog 121 26 [(.tmp 4)] (tEq1) := ⟨_, _, Tryd.func121, by decide +kernel, rfl, rfl, by kernel_rfl, rfl⟩
theorem eqStringS : EqOk Tryd.prog 121 (.sl 1 [.str]) := eqStr_ok i_eqStringS
theorem i_toStringS : Is Tryd.prog 120 22 [(.tmp 2)] (tTo1 16 [.t (.str [])]) := ⟨_, _, Tryd.func120, by decide +kernel, rfl, rfl, by kernel_rfl, rfl⟩
theorem toStringS : ToOk Tryd.prog 120 (.sl 1 [.str]) := to1_ok 16 [.t (.str [])] sc_str rfl (by decide) i_toStringS
def shSheetRule : List Sh := [.str, .sl 1 [.int .i64], .bool, .sl 1 [.str]]
theorem sizeSheetRule {n0} {n1} {n2} {n3} : T.sizeL [(.str n0), n1, (.bool n2), n3] = n0.length + n1.size + n3.size := by
  simp only [sizeL_cons, sizeL_nil, size_int, size_bool, size_str]
  try omega
def shSheetLine : List Sh := [.str, .sl 1 [.str]]
theorem isSheetLine {ts : List T} (ht : T.isL shSheetLine ts) : ∃ n0 n1, ts = [(.str n0), n1] ∧ n0.length ≤ maxLen ∧ T.is (.sl 1 [.str]) n1 := by
  simp only [shSheetLine, isL_cons, isL_nil, is_int, is_bool, is_str] at ht
  obtain ⟨_, _, rfl, ⟨n0, rfl, b0⟩, n1, _, rfl, b1, rfl⟩ := ht
  exact ⟨_, _, rfl, b0, b1⟩
theorem sizeSheetLine {n0} {n1} : T.sizeL [(.str n0), n1] = n0.length + n1.size := by
  simp only [sizeL_cons, sizeL_nil, size_int, size_bool, size_str]
  try omega
def c_laws_szSheetLine : C := (.seq (.ops [⟨(some 2), none, (.box (.t 0))⟩, ⟨(some 4), none, (.mv (.c (.t (.int .i64 0))))⟩]) (.seq (.ops [⟨(some 5), none, (.mv (.t 1))⟩, ⟨(some 6), none, (.fieldAddr 0 (.t 2))⟩, ⟨(some 7), none, (.load none (.t 6))⟩, ⟨(some 8), none, (.len true (.t 7))⟩, ⟨(some 9), none, (.bin .sub (.t 5) (.t 8))⟩, ⟨(some 1), none, (.mv (.t 9))⟩]) (.seq (.seq (.ops [⟨(some 10), none, (.mv (.t 1))⟩, ⟨(some 11), none, (.bin .lss (.t 10) (.c (.t (.int .i64 0))))⟩]) (.cond (.t 11) (.seq (.ops [⟨(some 4), none, (.mv (.c (.t (.int .i64 (-1)))))⟩]) .ret) .skip)) (.seq (.ops [⟨(some 12), none, (.fieldAddr 1 (.t 2))⟩, ⟨(some 13), none, (.load none (.t 12))⟩, ⟨(some 14), none, (.mv (.t 1))⟩, ⟨(some 15), none, (.call (.c (.fn (.func 119) [])) [(.t 13), (.t 14)])⟩, ⟨(some 1), none, (.mv (.t 15))⟩]) (.seq (.seq (.ops [⟨(some 16), none, (.mv (.t 1))⟩, ⟨(some 17), none, (.bin .lss (.t 16) (.c (.t (.int .i64 0))))⟩]) (.cond (.t 17) (.seq (.ops [⟨(some 4), none, (.mv (.c (.t (.int .i64 (-1)))))⟩]) .ret) .skip)) (.seq (.ops [⟨(some 18), none, (.mv (.t 1))⟩, ⟨(some 4), none, (.mv (.t 18))⟩]) .ret))))))
theorem k_laws_szSheetLine : comp Tryd.prog 19 (Tryd.f109.body.getD .skip) = some c_laws_szSheetLine := by kernel_rfl

theorem szSheetLine : SzLOk Tryd.prog 109 shSheetLine := by
  rintro ts left σ ht h0 h1
  obtain ⟨n0, n1, rfl, b0, b1⟩ := isSheetLine ht
  refine acalls_of Tryd.func109 (by decide +kernel) (code := Tryd.f109.body.getD .skip) (n := 19) (c := c_laws_szSheetLine) (rs := [(.tmp 4)]) rfl rfl k_laws_szSheetLine (by kernel_rfl) (by simp) (fun hσ => ?_)
  try simp only [maxLen] at *
  have fin : ∀ {n : Int} {τ : Store}, n ≤ left → (0 ≤ n → ((n0.length + n1.size : Nat) : Int) + n ≤ left) → retV σ.length (SzR (T.sizeL [(.str n0), n1]) left σ) (σ ++ τ) (some [.t (.int .i64 n)]) := fun h h' => ret_same rfl hσ rfl ⟨⟨_, rfl, h, fun h0 => by have := h' h0; rw [sizeSheetLine]; exact this⟩, rfl⟩
  have w0 : IntKind.i64.wrap (left - n0.length) = left - n0.length := IntWalk.i64_in _ (by omega)
  simp -implicitDefEqProofs only [c_laws_szSheetLine, w0, S0, S1, S2, S3, S4, S5, S6, S7, S8, S9, S10, S11, S12, S13, S14, S15, S16, S17, opv, opvs, eget, env0, setD, lenStr, lenSl, isNilP, isNilS, putAt, if_true, if_false, reduceCtorEq, Nat.reduceLeDiff, Nat.reduceEqDiff, Nat.reduceSub, Nat.reduceMul, Nat.reduceAdd]
  refine cond_split (fun h => ?_) (fun h => ?_)
  · simp -implicitDefEqProofs only [S0, S1, S2, S3, S4, S5, S6, S7, S8, S9, S10, S11, S12, S13, S14, S15, S16, S17, opv, opvs, eget, env0, setD, lenStr, lenSl, isNilP, isNilS, putAt, if_true, if_false, reduceCtorEq, Nat.reduceLeDiff, Nat.reduceEqDiff, Nat.reduceSub, Nat.reduceMul, Nat.reduceAdd]
    simp only [decide_eq_true_eq] at h
    exact fin (by omega) (by omega)
  simp only [decide_eq_false_iff_not, Int.not_lt] at h
  simp -implicitDefEqProofs only [S0, S1, S2, S3, S4, S5, S6, S7, S8, S9, S10, S11, S12, S13, S14, S15, S16, S17, opv, opvs, eget, env0, setD, lenStr, lenSl, isNilP, isNilS, putAt, if_true, if_false, reduceCtorEq, Nat.reduceLeDiff, Nat.reduceEqDiff, Nat.reduceSub, Nat.reduceMul, Nat.reduceAdd]
  refine call_by (by rw [List.append_nil]; exact szStringS n1 (left - n0.length) _ b1 (by omega) (by omega)) ?_
  rintro r σ' ⟨⟨m1, rfl, hm1, hs1⟩, rfl⟩
  try simp only [sizeSheetLine] at hs1
  simp -implicitDefEqProofs only [S0, S1, S2, S3, S4, S5, S6, S7, S8, S9, S10, S11, S12, S13, S14, S15, S16, S17, opv, opvs, eget, env0, setD, lenStr, lenSl, isNilP, isNilS, putAt, if_true, if_false, reduceCtorEq, Nat.reduceLeDiff, Nat.reduceEqDiff, Nat.reduceSub, Nat.reduceMul, Nat.reduceAdd]
  refine cond_split (fun h => ?_) (fun h => ?_)
  · simp -implicitDefEqProofs only [S0, S1, S2, S3, S4, S5, S6, S7, S8, S9, S10, S11, S12, S13, S14, S15, S16, S17, opv, opvs, eget, env0, setD, lenStr, lenSl, isNilP, isNilS, putAt, if_true, if_false, reduceCtorEq, Nat.reduceLeDiff, Nat.reduceEqDiff, Nat.reduceSub, Nat.reduceMul, Nat.reduceAdd]
    simp only [decide_eq_true_eq] at h
    exact fin (by omega) (by omega)
  simp only [decide_eq_false_iff_not, Int.not_lt] at h
  replace hs1 := hs1 h
  simp -implicitDefEqProofs only [S0, S1, S2, S3, S4, S5, S6, S7, S8, S9, S10, S11, S12, S13, S14, S15, S16, S17, opv, opvs, eget, env0, setD, lenStr, lenSl, isNilP, isNilS, putAt, if_true, if_false, reduceCtorEq, Nat.reduceLeDiff, Nat.reduceEqDiff, Nat.reduceSub, Nat.reduceMul, Nat.reduceAdd]
  exact fin (by omega) (fun _ => by omega)
def c_laws_eqSheetLine : C := (.seq (.ops [⟨(some 2), none, (.box (.t 0))⟩, ⟨(some 3), none, (.box (.t 1))⟩, ⟨(some 4), none, (.mv (.c (.t (.bool false))))⟩]) (.seq (.seq (.ops [⟨(some 5), none, (.fieldAddr 0 (.t 2))⟩, ⟨(some 6), none, (.load none (.t 5))⟩, ⟨(some 7), none, (.fieldAddr 0 (.t 3))⟩, ⟨(some 8), none, (.load none (.t 7))⟩, ⟨(some 9), none, (.bin .neq (.t 6) (.t 8))⟩]) (.cond (.t 9) (.seq (.ops [⟨(some 4), none, (.mv (.c (.t (.bool false))))⟩]) .ret) .skip)) (.seq (.seq (.ops [⟨(some 10), none, (.fieldAddr 1 (.t 2))⟩, ⟨(some 11), none, (.load none (.t 10))⟩, ⟨(some 12), none, (.fieldAddr 1 (.t 3))⟩, ⟨(some 13), none, (.load none (.t 12))⟩, ⟨(some 14), none, (.call (.c (.fn (.func 121) [])) [(.t 11), (.t 13)])⟩, ⟨(some 15), none, (.un .not (.t 14))⟩]) (.cond (.t 15) (.seq (.ops [⟨(some 4), none, (.mv (.c (.t (.bool false))))⟩]) .ret) .skip)) (.seq (.ops [⟨(some 4), none, (.mv (.c (.t (.bool true))))⟩]) .ret))))
theorem k_laws_eqSheetLine : comp Tryd.prog 16 (Tryd.f111.body.getD .skip) = some c_laws_eqSheetLine := by kernel_rfl

theorem eqSheetLine : EqLOk Tryd.prog 111 shSheetLine := by
  rintro ts σ ht h1
  obtain ⟨n0, n1, rfl, b0, b1⟩ := isSheetLine ht
  rw [sizeSheetLine] at h1
  refine acalls_of Tryd.func111 (by decide +kernel) (code := Tryd.f111.body.getD .skip) (n := 16) (c := c_laws_eqSheetLine) (rs := [(.tmp 4)]) rfl rfl k_laws_eqSheetLine (by kernel_rfl) (by simp) (fun hσ => ?_)
  simp -implicitDefEqProofs only [c_laws_eqSheetLine, ne_self, beq_self_eq_true, S0, S1, S2, S3, S4, S5, S6, S7, S8, S9, S10, S11, S12, S13, S14, S15, S16, S17, opv, opvs, eget, env0, setD, lenStr, lenSl, isNilP, isNilS, putAt, if_true, if_false, reduceCtorEq, Nat.reduceLeDiff, Nat.reduceEqDiff, Nat.reduceSub, Nat.reduceMul, Nat.reduceAdd]
  refine call_pure (eqStringS n1 _ b1 (by omega)) ?_
  simp -implicitDefEqProofs only [ne_self, beq_self_eq_true, S0, S1, S2, S3, S4, S5, S6, S7, S8, S9, S10, S11, S12, S13, S14, S15, S16, S17, opv, opvs, eget, env0, setD, lenStr, lenSl, isNilP, isNilS, putAt, if_true, if_false, reduceCtorEq, Nat.reduceLeDiff, Nat.reduceEqDiff, Nat.reduceSub, Nat.reduceMul, Nat.reduceAdd]
  exact ret_same rfl hσ rfl ⟨rfl, rfl⟩
def c_laws_toSheetLine : C := (.seq (.ops [⟨(some 1), none, (.box (.t 0))⟩, ⟨(some 2), none, (.new [(.t (.str [])), .nils])⟩]) (.seq (.ops [⟨(some 3), none, (.new [(.t (.str [])), .nils])⟩]) (.seq (.ops [⟨(some 4), none, (.fieldAddr 0 (.t 1))⟩, ⟨(some 5), none, (.load none (.t 4))⟩, ⟨(some 6), none, (.fieldAddr 0 (.t 3))⟩, ⟨none, none, (.store 1 (.t 6) (.t 5))⟩]) (.seq (.ops [⟨(some 7), none, (.fieldAddr 1 (.t 1))⟩, ⟨(some 8), none, (.load none (.t 7))⟩, ⟨(some 9), none, (.call (.c (.fn (.func 120) [])) [(.t 8)])⟩, ⟨(some 10), none, (.fieldAddr 1 (.t 3))⟩, ⟨none, none, (.store 1 (.t 10) (.t 9))⟩]) (.seq (.ops [⟨(some 11), none, (.load (some 2) (.t 3))⟩, ⟨none, none, (.store 2 (.t 2) (.t 11))⟩]) .ret)))))
theorem k_laws_toSheetLine : comp Tryd.prog 12 (Tryd.f110.body.getD .skip) = some c_laws_toSheetLine := by kernel_rfl

theorem toSheetLine : ToLOk Tryd.prog 110 shSheetLine := by
  rintro ts σ ht h1
  obtain ⟨n0, n1, rfl, b0, b1⟩ := isSheetLine ht
  rw [sizeSheetLine] at h1
  refine acalls_of Tryd.func110 (by decide +kernel) (code := Tryd.f110.body.getD .skip) (n := 12) (c := c_laws_toSheetLine) (rs := [(.cell 2 (some 2))]) rfl rfl k_laws_toSheetLine (by kernel_rfl) (by simp) (fun hσ => ?_)
  simp -implicitDefEqProofs only [c_laws_toSheetLine, S0, S1, S2, S3, S4, S5, S6, S7, S8, S9, S10, S11, S12, S13, S14, S15, S16, S17, opv, opvs, eget, env0, setD, lenStr, lenSl, isNilP, isNilS, putAt, if_true, if_false, reduceCtorEq, Nat.reduceLeDiff, Nat.reduceEqDiff, Nat.reduceSub, Nat.reduceMul, Nat.reduceAdd]
  refine call_by (by rw [List.append_nil]; exact toStringS n1 _ b1 (by omega)) ?_
  rintro u1 σ' ⟨τ1, j1, rfl, o1, w1⟩
  have e1 := o1.one
  simp -implicitDefEqProofs only [one_cells e1, e1, S0, S1, S2, S3, S4, S5, S6, S7, S8, S9, S10, S11, S12, S13, S14, S15, S16, S17, opv, opvs, eget, env0, setD, lenStr, lenSl, isNilP, isNilS, putAt, if_true, if_false, reduceCtorEq, Nat.reduceLeDiff, Nat.reduceEqDiff, Nat.reduceSub, Nat.reduceMul, Nat.reduceAdd]
  refine fin_keep (by simp) ⟨_, _, (j1 ++ []), rfl, rfl, (OwnL.str (OwnL.lst (own_pre (A := [_, _, _]) (A' := [_, _, _]) (B := τ1) (B' := τ1) o1 w1 (List.append_assoc ..) rfl rfl (by simp) (by simp)) OwnL.nil0)), ?_⟩
  simp only [List.length_append, List.length_cons, List.length_nil] at w1 ⊢
  refine Wi.mono (a := σ.length) ?_ (Nat.le_refl _) (Nat.le_refl _)
  exact wi_last w1 (by omega) (by omega)
theorem i_szSheetLineS : Is Tryd.prog 91 27 [(.tmp 4)] (tSzS 2 109) := ⟨_, _, Tryd.func91, by decide +kernel, rfl, rfl, by kernel_rfl, rfl⟩
theorem szSheetLineS : SzOk Tryd.prog 91 (.sl 2 shSheetLine) := szS_ok rfl i_szSheetLineS szSheetLine
theorem i_eqSheetLineS : Is Tryd.prog 97 27 [(.tmp 4)] (tEqS 2 111) := ⟨_, _, Tryd.func97, by decide +kernel, rfl, rfl, by kernel_rfl, rfl⟩
theorem eqSheetLineS : EqOk Tryd.prog 97 (.sl 2 shSheetLine) := eqS_ok rfl i_eqSheetLineS eqSheetLine
theorem i_toSheetLineS : Is Tryd.prog 93 23 [(.tmp 2)] (tToS 2 40 110 [.t (.str []), .nils]) := ⟨_, _, Tryd.func93, by decide +kernel, rfl, rfl, by kernel_rfl, rfl⟩
theorem toSheetLineS : ToOk Tryd.prog 93 (.sl 2 shSheetLine) := toS_ok 40 [.t (.str []), .nils] rfl (by decide) rfl (by decide) i_toSheetLineS toSheetLine
def shSheetBlock : List Sh := [.str, .str, .sl 2 shSheetLine]
theorem isSheetBlock {ts : List T} (ht : T.isL shSheetBlock ts) : ∃ n0 n1 n2, ts = [(.str n0), (.str n1), n2] ∧ n0.length ≤ maxLen ∧ n1.length ≤ maxLen ∧ T.is (.sl 2 shSheetLine) n2 := by
  simp only [shSheetBlock, isL_cons, isL_nil, is_int, is_bool, is_str] at ht
  obtain ⟨_, _, rfl, ⟨n0, rfl, b0⟩, _, _, rfl, ⟨n1, rfl, b1⟩, n2, _, rfl, b2, rfl⟩ := ht
  exact ⟨_, _, _, rfl, b0, b1, b2⟩
theorem sizeSheetBlock {n0} {n1} {n2} : T.sizeL [(.str n0), (.str n1), n2] = n0.length + n1.length + n2.size := by
  simp only [sizeL_cons, sizeL_nil, size_int, size_bool, size_str]
  try omega
def c_laws_szSheetBlock : C := (.seq (.ops [⟨(some 2), none, (.box (.t 0))⟩, ⟨(some 4), none, (.mv (.c (.t (.int .i64 0))))⟩]) (.seq (.ops [⟨(some 5), none, (.mv (.t 1))⟩, ⟨(some 6), none, (.fieldAddr 0 (.t 2))⟩, ⟨(some 7), none, (.load none (.t 6))⟩, ⟨(some 8), none, (.len true (.t 7))⟩, ⟨(some 9), none, (.bin .sub (.t 5) (.t 8))⟩, ⟨(some 1), none, (.mv (.t 9))⟩]) (.seq (.seq (.ops [⟨(some 10), none, (.mv (.t 1))⟩, ⟨(some 11), none, (.bin .lss (.t 10) (.c (.t (.int .i64 0))))⟩]) (.cond (.t 11) (.seq (.ops [⟨(some 4), none, (.mv (.c (.t (.int .i64 (-1)))))⟩]) .ret) .skip)) (.seq (.ops [⟨(some 12), none, (.mv (.t 1))⟩, ⟨(some 13), none, (.fieldAddr 1 (.t 2))⟩, ⟨(some 14), none, (.load none (.t 13))⟩, ⟨(some 15), none, (.len true (.t 14))⟩, ⟨(some 16), none, (.bin .sub (.t 12) (.t 15))⟩, ⟨(some 1), none, (.mv (.t 16))⟩]) (.seq (.seq (.ops [⟨(some 17), none, (.mv (.t 1))⟩, ⟨(some 18), none, (.bin .lss (.t 17) (.c (.t (.int .i64 0))))⟩]) (.cond (.t 18) (.seq (.ops [⟨(some 4), none, (.mv (.c (.t (.int .i64 (-1)))))⟩]) .ret) .skip)) (.seq (.ops [⟨(some 19), none, (.fieldAddr 2 (.t 2))⟩, ⟨(some 20), none, (.load none (.t 19))⟩, ⟨(some 21), none, (.mv (.t 1))⟩, ⟨(some 22), none, (.call (.c (.fn (.func 91) [])) [(.t 20), (.t 21)])⟩, ⟨(some 1), none, (.mv (.t 22))⟩]) (.seq (.seq (.ops [⟨(some 23), none, (.mv (.t 1))⟩, ⟨(some 24), none, (.bin .lss (.t 23) (.c (.t (.int .i64 0))))⟩]) (.cond (.t 24) (.seq (.ops [⟨(some 4), none, (.mv (.c (.t (.int .i64 (-1)))))⟩]) .ret) .skip)) (.seq (.ops [⟨(some 25), none, (.mv (.t 1))⟩, ⟨(some 4), none, (.mv (.t 25))⟩]) .ret))))))))
theorem k_laws_szSheetBlock : comp Tryd.prog 26 (Tryd.f75.body.getD .skip) = some c_laws_szSheetBlock := by kernel_rfl

theorem szSheetBlock : SzLOk Tryd.prog 75 shSheetBlock := by
  rintro ts left σ ht h0 h1
  obtain ⟨n0, n1, n2, rfl, b0, b1, b2⟩ := isSheetBlock ht
  refine acalls_of Tryd.func75 (by decide +kernel) (code := Tryd.f75.body.getD .skip) (n := 26) (c := c_laws_szSheetBlock) (rs := [(.tmp 4)]) rfl rfl k_laws_szSheetBlock (by kernel_rfl) (by simp) (fun hσ => ?_)
  try simp only [maxLen] at *
  have fin : ∀ {n : Int} {τ : Store}, n ≤ left → (0 ≤ n → ((n0.length + n1.length + n2.size : Nat) : Int) + n ≤ left) → retV σ.length (SzR (T.sizeL [(.str n0), (.str n1), n2]) left σ) (σ ++ τ) (some [.t (.int .i64 n)]) := fun h h' => ret_same rfl hσ rfl ⟨⟨_, rfl, h, fun h0 => by have := h' h0; rw [sizeSheetBlock]; exact this⟩, rfl⟩
  have w0 : IntKind.i64.wrap (left - n0.length) = left - n0.length := IntWalk.i64_in _ (by omega)
  simp -implicitDefEqProofs only [c_laws_szSheetBlock, w0, S0, S1, S2, S3, S4, S5, S6, S7, S8, S9, S10, S11, S12, S13, S14, S15, S16, S17, opv, opvs, eget, env0, setD, lenStr, lenSl, isNilP, isNilS, putAt, if_true, if_false, reduceCtorEq, Nat.reduceLeDiff, Nat.reduceEqDiff, Nat.reduceSub, Nat.reduceMul, Nat.reduceAdd]
  refine cond_split (fun h => ?_) (fun h => ?_)
  · simp -implicitDefEqProofs only [S0, S1, S2, S3, S4, S5, S6, S7, S8, S9, S10, S11, S12, S13, S14, S15, S16, S17, opv, opvs, eget, env0, setD, lenStr, lenSl, isNilP, isNilS, putAt, if_true, if_false, reduceCtorEq, Nat.reduceLeDiff, Nat.reduceEqDiff, Nat.reduceSub, Nat.reduceMul, Nat.reduceAdd]
    simp only [decide_eq_true_eq] at h
    exact fin (by omega) (by omega)
  simp only [decide_eq_false_iff_not, Int.not_lt] at h
  have w1 : IntKind.i64.wrap ((left - n0.length) - n1.length) = (left - n0.length) - n1.length := IntWalk.i64_in _ (by omega)
  simp -implicitDefEqProofs only [w1, S0, S1, S2, S3, S4, S5, S6, S7, S8, S9, S10, S11, S12, S13, S14, S15, S16, S17, opv, opvs, eget, env0, setD, lenStr, lenSl, isNilP, isNilS, putAt, if_true, if_false, reduceCtorEq, Nat.reduceLeDiff, Nat.reduceEqDiff, Nat.reduceSub, Nat.reduceMul, Nat.reduceAdd]
  refine cond_split (fun h => ?_) (fun h => ?_)
  · simp -implicitDefEqProofs only [S0, S1, S2, S3, S4, S5, S6, S7, S8, S9, S10, S11, S12, S13, S14, S15, S16, S17, opv, opvs, eget, env0, setD, lenStr, lenSl, isNilP, isNilS, putAt, if_true, if_false, reduceCtorEq, Nat.reduceLeDiff, Nat.reduceEqDiff, Nat.reduceSub, Nat.reduceMul, Nat.reduceAdd]
    simp only [decide_eq_true_eq] at h
    exact fin (by omega) (by omega)
  simp only [decide_eq_false_iff_not, Int.not_lt] at h
  simp -implicitDefEqProofs only [S0, S1, S2, S3, S4, S5, S6, S7, S8, S9, S10, S11, S12, S13, S14, S15, S16, S17, opv, opvs, eget, env0, setD, lenStr, lenSl, isNilP, isNilS, putAt, if_true, if_false, reduceCtorEq, Nat.reduceLeDiff, Nat.reduceEqDiff, Nat.reduceSub, Nat.reduceMul, Nat.reduceAdd]
  refine call_by (by rw [List.append_nil]; exact szSheetLineS n2 ((left - n0.length) - n1.length) _ b2 (by omega) (by omega)) ?_
  rintro r σ' ⟨⟨m2, rfl, hm2, hs2⟩, rfl⟩
  try simp only [sizeSheetBlock] at hs2
  simp -implicitDefEqProofs only [S0, S1, S2, S3, S4, S5, S6, S7, S8, S9, S10, S11, S12, S13, S14, S15, S16, S17, opv, opvs, eget, env0, setD, lenStr, lenSl, isNilP, isNilS, putAt, if_true, if_false, reduceCtorEq, Nat.reduceLeDiff, Nat.reduceEqDiff, Nat.reduceSub, Nat.reduceMul, Nat.reduceAdd]
  refine cond_split (fun h => ?_) (fun h => ?_)
  · simp -implicitDefEqProofs only [S0, S1, S2, S3, S4, S5, S6, S7, S8, S9, S10, S11, S12, S13, S14, S15, S16, S17, opv, opvs, eget, env0, setD, lenStr, lenSl, isNilP, isNilS, putAt, if_true, if_false, reduceCtorEq, Nat.reduceLeDiff, Nat.reduceEqDiff, Nat.reduceSub, Nat.reduceMul, Nat.reduceAdd]
    simp only [decide_eq_true_eq] at h
    exact fin (by omega) (by omega)
  simp only [decide_eq_false_iff_not, Int.not_lt] at h
  replace hs2 := hs2 h
  simp -implicitDefEqProofs only [S0, S1, S2, S3, S4, S5, S6, S7, S8, S9, S10, S11, S12, S13, S14, S15, S16, S17, opv, opvs, eget, env0, setD, lenStr, lenSl, isNilP, isNilS, putAt, if_true, if_false, reduceCtorEq, Nat.reduceLeDiff, Nat.reduceEqDiff, Nat.reduceSub, Nat.reduceMul, Nat.reduceAdd]
  exact fin (by omega) (fun _ => by omega)
def c_laws_eqSheetBlock : C := (.seq (.ops [⟨(some 2), none, (.box (.t 0))⟩, ⟨(some 3), none, (.box (.t 1))⟩, ⟨(some 4), none, (.mv (.c (.t (.bool false))))⟩]) (.seq (.seq (.ops [⟨(some 5), none, (.fieldAddr 0 (.t 2))⟩, ⟨(some 6), none, (.load none (.t 5))⟩, ⟨(some 7), none, (.fieldAddr 0 (.t 3))⟩, ⟨(some 8), none, (.load none (.t 7))⟩, ⟨(some 9), none, (.bin .neq (.t 6) (.t 8))⟩]) (.cond (.t 9) (.seq (.ops [⟨(some 4), none, (.mv (.c (.t (.bool false))))⟩]) .ret) .skip)) (.seq (.seq (.ops [⟨(some 10), none, (.fieldAddr 1 (.t 2))⟩, ⟨(some 11), none, (.load none (.t 10))⟩, ⟨(some 12), none, (.fieldAddr 1 (.t 3))⟩, ⟨(some 13), none, (.load none (.t 12))⟩, ⟨(some 14), none, (.bin .neq (.t 11) (.t 13))⟩]) (.cond (.t 14) (.seq (.ops [⟨(some 4), none, (.mv (.c (.t (.bool false))))⟩]) .ret) .skip)) (.seq (.seq (.ops [⟨(some 15), none, (.fieldAddr 2 (.t 2))⟩, ⟨(some 16), none, (.load none (.t 15))⟩, ⟨(some 17), none, (.fieldAddr 2 (.t 3))⟩, ⟨(some 18), none, (.load none (.t 17))⟩, ⟨(some 19), none, (.call (.c (.fn (.func 97) [])) [(.t 16), (.t 18)])⟩, ⟨(some 20), none, (.un .not (.t 19))⟩]) (.cond (.t 20) (.seq (.ops [⟨(some 4), none, (.mv (.c (.t (.bool false))))⟩]) .ret) .skip)) (.seq (.ops [⟨(some 4), none, (.mv (.c (.t (.bool true))))⟩]) .ret)))))
theorem k_laws_eqSheetBlock : comp Tryd.prog 21 (Tryd.f81.body.getD .skip) = some c_laws_eqSheetBlock := by kernel_rfl

theorem eqSheetBlock : EqLOk Tryd.prog 81 shSheetBlock := by
  rintro ts σ ht h1
  obtain ⟨n0, n1, n2, rfl, b0, b1, b2⟩ := isSheetBlock ht
  rw [sizeSheetBlock] at h1
  refine acalls_of Tryd.func81 (by decide +kernel) (code := Tryd.f81.body.getD .skip) (n := 21) (c := c_laws_eqSheetBlock) (rs := [(.tmp 4)]) rfl rfl k_laws_eqSheetBlock (by kernel_rfl) (by simp) (fun hσ => ?_)
  simp -implicitDefEqProofs only [c_laws_eqSheetBlock, ne_self, beq_self_eq_true, S0, S1, S2, S3, S4, S5, S6, S7, S8, S9, S10, S11, S12, S13, S14, S15, S16, S17, opv, opvs, eget, env0, setD, lenStr, lenSl, isNilP, isNilS, putAt, if_true, if_false, reduceCtorEq, Nat.reduceLeDiff, Nat.reduceEqDiff, Nat.reduceSub, Nat.reduceMul, Nat.reduceAdd]
  refine call_pure (eqSheetLineS n2 _ b2 (by omega)) ?_
  simp -implicitDefEqProofs only [ne_self, beq_self_eq_true, S0, S1, S2, S3, S4, S5, S6, S7, S8, S9, S10, S11, S12, S13, S14, S15, S16, S17, opv, opvs, eget, env0, setD, lenStr, lenSl, isNilP, isNilS, putAt, if_true, if_false, reduceCtorEq, Nat.reduceLeDiff, Nat.reduceEqDiff, Nat.reduceSub, Nat.reduceMul, Nat.reduceAdd]
  exact ret_same rfl hσ rfl ⟨rfl, rfl⟩
def c_laws_toSheetBlock : C := (.seq (.ops [⟨(some 1), none, (.box (.t 0))⟩, ⟨(some 2), none, (.new [(.t (.str [])), (.t (.str [])), .nils])⟩]) (.seq (.ops [⟨(some 3), none, (.new [(.t (.str [])), (.t (.str [])), .nils])⟩]) (.seq (.ops [⟨(some 4), none, (.fieldAddr 0 (.t 1))⟩, ⟨(some 5), none, (.load none (.t 4))⟩, ⟨(some 6), none, (.fieldAddr 0 (.t 3))⟩, ⟨none, none, (.store 1 (.t 6) (.t 5))⟩]) (.seq (.ops [⟨(some 7), none, (.fieldAddr 1 (.t 1))⟩, ⟨(some 8), none, (.load none (.t 7))⟩, ⟨(some 9), none, (.fieldAddr 1 (.t 3))⟩, ⟨none, none, (.store 1 (.t 9) (.t 8))⟩]) (.seq (.ops [⟨(some 10), none, (.fieldAddr 2 (.t 1))⟩, ⟨(some 11), none, (.load none (.t 10))⟩, ⟨(some 12), none, (.call (.c (.fn (.func 93) [])) [(.t 11)])⟩, ⟨(some 13), none, (.fieldAddr 2 (.t 3))⟩, ⟨none, none, (.store 1 (.t 13) (.t 12))⟩]) (.seq (.ops [⟨(some 14), none, (.load (some 3) (.t 3))⟩, ⟨none, none, (.store 3 (.t 2) (.t 14))⟩]) .ret))))))
theorem k_laws_toSheetBlock : comp Tryd.prog 15 (Tryd.f77.body.getD .skip) = some c_laws_toSheetBlock := by kernel_rfl

theorem toSheetBlock : ToLOk Tryd.prog 77 shSheetBlock := by
  rintro ts σ ht h1
  obtain ⟨n0, n1, n2, rfl, b0, b1, b2⟩ := isSheetBlock ht
  rw [sizeSheetBlock] at h1
  refine acalls_of Tryd.func77 (by decide +kernel) (code := Tryd.f77.body.getD .skip) (n := 15) (c := c_laws_toSheetBlock) (rs := [(.cell 2 (some 3))]) rfl rfl k_laws_toSheetBlock (by kernel_rfl) (by simp) (fun hσ => ?_)
  simp -implicitDefEqProofs only [c_laws_toSheetBlock, S0, S1, S2, S3, S4, S5, S6, S7, S8, S9, S10, S11, S12, S13, S14, S15, S16, S17, opv, opvs, eget, env0, setD, lenStr, lenSl, isNilP, isNilS, putAt, if_true, if_false, reduceCtorEq, Nat.reduceLeDiff, Nat.reduceEqDiff, Nat.reduceSub, Nat.reduceMul, Nat.reduceAdd]
  refine call_by (by rw [List.append_nil]; exact toSheetLineS n2 _ b2 (by omega)) ?_
  rintro u2 σ' ⟨τ2, j2, rfl, o2, w2⟩
  have e2 := o2.one
  simp -implicitDefEqProofs only [one_cells e2, e2, S0, S1, S2, S3, S4, S5, S6, S7, S8, S9, S10, S11, S12, S13, S14, S15, S16, S17, opv, opvs, eget, env0, setD, lenStr, lenSl, isNilP, isNilS, putAt, if_true, if_false, reduceCtorEq, Nat.reduceLeDiff, Nat.reduceEqDiff, Nat.reduceSub, Nat.reduceMul, Nat.reduceAdd]
  refine fin_keep (by simp) ⟨_, _, (j2 ++ []), rfl, rfl, (OwnL.str (OwnL.str (OwnL.lst (own_pre (A := [_, _, _]) (A' := [_, _, _]) (B := τ2) (B' := τ2) o2 w2 (List.append_assoc ..) rfl rfl (by simp) (by simp)) OwnL.nil0))), ?_⟩
  simp only [List.length_append, List.length_cons, List.length_nil] at w2 ⊢
  refine Wi.mono (a := σ.length) ?_ (Nat.le_refl _) (Nat.le_refl _)
  exact wi_last w2 (by omega) (by omega)
theorem i_szSheetBlockS : Is Tryd.prog 49 27 [(.tmp 4)] (tSzS 3 75) := ⟨_, _, Tryd.func49, by decide +kernel, rfl, rfl, by kernel_rfl, rfl⟩
theorem szSheetBlockS : SzOk Tryd.prog 49 (.sl 3 shSheetBlock) := szS_ok rfl i_szSheetBlockS szSheetBlock
theorem i_eqSheetBlockS : Is Tryd.prog 56 27 [(.tmp 4)] (tEqS 3 81) := ⟨_, _, Tryd.func56, by decide +kernel, rfl, rfl, by kernel_rfl, rfl⟩
theorem eqSheetBlockS : EqOk Tryd.prog 56 (.sl 3 shSheetBlock) := eqS_ok rfl i_eqSheetBlockS eqSheetBlock
theorem i_toSheetBlockS : Is Tryd.prog 51 23 [(.tmp 2)] (tToS 3 56 77 [.t (.str []), .t (.str []), .nils]) := ⟨_, _, Tryd.func51, by decide +kernel, rfl, rfl, by kernel_rfl, rfl⟩
theorem toSheetBlockS : ToOk Tryd.prog 51 (.sl 3 shSheetBlock) := toS_ok 56 [.t (.str []), .t (.str []), .nils] rfl (by decide) rfl (by decide) i_toSheetBlockS toSheetBlock
def shSheet : List Sh := [.sl 3 shSheetBlock]
theorem isSheet {ts : List T} (ht : T.isL shSheet ts) : ∃ n0, ts = [n0] ∧ T.is (.sl 3 shSheetBlock) n0 := by
  simp only [shSheet, isL_cons, isL_nil, is_int, is_bool, is_str] at ht
  obtain ⟨n0, _, rfl, b0, rfl⟩ := ht
  exact ⟨_, rfl, b0⟩
theorem sizeSheet {n0} : T.sizeL [n0] = n0.size := by
  simp only [sizeL_cons, sizeL_nil, size_int, size_bool, size_str]
  try omega
def c_laws_szSheet : C := (.seq (.ops [⟨(some 2), none, (.box (.t 0))⟩, ⟨(some 4), none, (.mv (.c (.t (.int .i64 0))))⟩]) (.seq (.ops [⟨(some 5), none, (.fieldAddr 0 (.t 2))⟩, ⟨(some 6), none, (.load none (.t 5))⟩, ⟨(some 7), none, (.mv (.t 1))⟩, ⟨(some 8), none, (.call (.c (.fn (.func 49) [])) [(.t 6), (.t 7)])⟩, ⟨(some 1), none, (.mv (.t 8))⟩]) (.seq (.seq (.ops [⟨(some 9), none, (.mv (.t 1))⟩, ⟨(some 10), none, (.bin .lss (.t 9) (.c (.t (.int .i64 0))))⟩]) (.cond (.t 10) (.seq (.ops [⟨(some 4), none, (.mv (.c (.t (.int .i64 (-1)))))⟩]) .ret) .skip)) (.seq (.ops [⟨(some 11), none, (.mv (.t 1))⟩, ⟨(some 4), none, (.mv (.t 11))⟩]) .ret))))
theorem k_laws_szSheet : comp Tryd.prog 12 (Tryd.f18.body.getD .skip) = some c_laws_szSheet := by kernel_rfl

theorem szSheet : SzLOk Tryd.prog 18 shSheet := by
  rintro ts left σ ht h0 h1
  obtain ⟨n0, rfl, b0⟩ := isSheet ht
  refine acalls_of Tryd.func18 (by decide +kernel) (code := Tryd.f18.body.getD .skip) (n := 12) (c := c_laws_szSheet) (rs := [(.tmp 4)]) rfl rfl k_laws_szSheet (by kernel_rfl) (by simp) (fun hσ => ?_)
  try simp only [maxLen] at *
  have fin : ∀ {n : Int} {τ : Store}, n ≤ left → (0 ≤ n → ((n0.size : Nat) : Int) + n ≤ left) → retV σ.length (SzR (T.sizeL [n0]) left σ) (σ ++ τ) (some [.t (.int .i64 n)]) := fun h h' => ret_same rfl hσ rfl ⟨⟨_, rfl, h, fun h0 => by have := h' h0; rw [sizeSheet]; exact this⟩, rfl⟩
  simp -implicitDefEqProofs only [c_laws_szSheet, S0, S1, S2, S3, S4, S5, S6, S7, S8, S9, S10, S11, S12, S13, S14, S15, S16, S17, opv, opvs, eget, env0, setD, lenStr, lenSl, isNilP, isNilS, putAt, if_true, if_false, reduceCtorEq, Nat.reduceLeDiff, Nat.reduceEqDiff, Nat.reduceSub, Nat.reduceMul, Nat.reduceAdd]
  refine call_by (by rw [List.append_nil]; exact szSheetBlockS n0 left _ b0 (by omega) (by omega)) ?_
  rintro r σ' ⟨⟨m0, rfl, hm0, hs0⟩, rfl⟩
  try simp only [sizeSheet] at hs0
  simp -implicitDefEqProofs only [S0, S1, S2, S3, S4, S5, S6, S7, S8, S9, S10, S11, S12, S13, S14, S15, S16, S17, opv, opvs, eget, env0, setD, lenStr, lenSl, isNilP, isNilS, putAt, if_true, if_false, reduceCtorEq, Nat.reduceLeDiff, Nat.reduceEqDiff, Nat.reduceSub, Nat.reduceMul, Nat.reduceAdd]
  refine cond_split (fun h => ?_) (fun h => ?_)
  · simp -implicitDefEqProofs only [S0, S1, S2, S3, S4, S5, S6, S7, S8, S9, S10, S11, S12, S13, S14, S15, S16, S17, opv, opvs, eget, env0, setD, lenStr, lenSl, isNilP, isNilS, putAt, if_true, if_false, reduceCtorEq, Nat.reduceLeDiff, Nat.reduceEqDiff, Nat.reduceSub, Nat.reduceMul, Nat.reduceAdd]
    simp only [decide_eq_true_eq] at h
    exact fin (by omega) (by omega)
  simp only [decide_eq_false_iff_not, Int.not_lt] at h
  replace hs0 := hs0 h
  simp -implicitDefEqProofs only [S0, S1, S2, S3, S4, S5, S6, S7, S8, S9, S10, S11, S12, S13, S14, S15, S16, S17, opv, opvs, eget, env0, setD, lenStr, lenSl, isNilP, isNilS, putAt, if_true, if_false, reduceCtorEq, Nat.reduceLeDiff, Nat.reduceEqDiff, Nat.reduceSub, Nat.reduceMul, Nat.reduceAdd]
  exact fin (by omega) (fun _ => by omega)
def c_laws_eqSheet : C := (.seq (.ops [⟨(some 2), none, (.box (.t 0))⟩, ⟨(some 3), none, (.box (.t 1))⟩, ⟨(some 4), none, (.mv (.c (.t (.bool false))))⟩]) (.seq (.seq (.ops [⟨(some 5), none, (.fieldAddr 0 (.t 2))⟩, ⟨(some 6), none, (.load none (.t 5))⟩, ⟨(some 7), none, (.fieldAddr 0 (.t 3))⟩, ⟨(some 8), none, (.load none (.t 7))⟩, ⟨(some 9), none, (.call (.c (.fn (.func 56) [])) [(.t 6), (.t 8)])⟩, ⟨(some 10), none, (.un .not (.t 9))⟩]) (.cond (.t 10) (.seq (.ops [⟨(some 4), none, (.mv (.c (.t (.bool false))))⟩]) .ret) .skip)) (.seq (.ops [⟨(some 4), none, (.mv (.c (.t (.bool true))))⟩]) .ret)))
theorem k_laws_eqSheet : comp Tryd.prog 11 (Tryd.f22.body.getD .skip) = some c_laws_eqSheet := by kernel_rfl

theorem eqSheet : EqLOk Tryd.prog 22 shSheet := by
  rintro ts σ ht h1
  obtain ⟨n0, rfl, b0⟩ := isSheet ht
  rw [sizeSheet] at h1
  refine acalls_of Tryd.func22 (by decide +kernel) (code := Tryd.f22.body.getD .skip) (n := 11) (c := c_laws_eqSheet) (rs := [(.tmp 4)]) rfl rfl k_laws_eqSheet (by kernel_rfl) (by simp) (fun hσ => ?_)
  simp -implicitDefEqProofs only [c_laws_eqSheet, ne_self, beq_self_eq_true, S0, S1, S2, S3, S4, S5, S6, S7, S8, S9, S10, S11, S12, S13, S14, S15, S16, S17, opv, opvs, eget, env0, setD, lenStr, lenSl, isNilP, isNilS, putAt, if_true, if_false, reduceCtorEq, Nat.reduceLeDiff, Nat.reduceEqDiff, Nat.reduceSub, Nat.reduceMul, Nat.reduceAdd]
  refine call_pure (eqSheetBlockS n0 _ b0 (by omega)) ?_
  simp -implicitDefEqProofs only [ne_self, beq_self_eq_true, S0, S1, S2, S3, S4, S5, S6, S7, S8, S9, S10, S11, S12, S13, S14, S15, S16, S17, opv, opvs, eget, env0, setD, lenStr, lenSl, isNilP, isNilS, putAt, if_true, if_false, reduceCtorEq, Nat.reduceLeDiff, Nat.reduceEqDiff, Nat.reduceSub, Nat.reduceMul, Nat.reduceAdd]
  exact ret_same rfl hσ rfl ⟨rfl, rfl⟩
def c_laws_toSheet : C := (.seq (.ops [⟨(some 1), none, (.box (.t 0))⟩, ⟨(some 2), none, (.new [.nils])⟩]) (.seq (.ops [⟨(some 3), none, (.new [.nils])⟩]) (.seq (.ops [⟨(some 4), none, (.fieldAddr 0 (.t 1))⟩, ⟨(some 5), none, (.load none (.t 4))⟩, ⟨(some 6), none, (.call (.c (.fn (.func 51) [])) [(.t 5)])⟩, ⟨(some 7), none, (.fieldAddr 0 (.t 3))⟩, ⟨none, none, (.store 1 (.t 7) (.t 6))⟩]) (.seq (.ops [⟨(some 8), none, (.load (some 1) (.t 3))⟩, ⟨none, none, (.store 1 (.t 2) (.t 8))⟩]) .ret))))
theorem k_laws_toSheet : comp Tryd.prog 9 (Tryd.f20.body.getD .skip) = some c_laws_toSheet := by kernel_rfl

theorem toSheet : ToLOk Tryd.prog 20 shSheet := by
  rintro ts σ ht h1
  obtain ⟨n0, rfl, b0⟩ := isSheet ht
  rw [sizeSheet] at h1
  refine acalls_of Tryd.func20 (by decide +kernel) (code := Tryd.f20.body.getD .skip) (n := 9) (c := c_laws_toSheet) (rs := [(.cell 2 (some 1))]) rfl rfl k_laws_toSheet (by kernel_rfl) (by simp) (fun hσ => ?_)
  simp -implicitDefEqProofs only [c_laws_toSheet, S0, S1, S2, S3, S4, S5, S6, S7, S8, S9, S10, S11, S12, S13, S14, S15, S16, S17, opv, opvs, eget, env0, setD, lenStr, lenSl, isNilP, isNilS, putAt, if_true, if_false, reduceCtorEq, Nat.reduceLeDiff, Nat.reduceEqDiff, Nat.reduceSub, Nat.reduceMul, Nat.reduceAdd]
  refine call_by (by rw [List.append_nil]; exact toSheetBlockS n0 _ b0 (by omega)) ?_
  rintro u0 σ' ⟨τ0, j0, rfl, o0, w0⟩
  have e0 := o0.one
  simp -implicitDefEqProofs only [one_cells e0, e0, S0, S1, S2, S3, S4, S5, S6, S7, S8, S9, S10, S11, S12, S13, S14, S15, S16, S17, opv, opvs, eget, env0, setD, lenStr, lenSl, isNilP, isNilS, putAt, if_true, if_false, reduceCtorEq, Nat.reduceLeDiff, Nat.reduceEqDiff, Nat.reduceSub, Nat.reduceMul, Nat.reduceAdd]
  refine fin_keep (by simp) ⟨_, _, (j0 ++ []), rfl, rfl, (OwnL.lst (own_pre (A := [_, _, _]) (A' := [_, _, _]) (B := τ0) (B' := τ0) o0 w0 (List.append_assoc ..) rfl rfl (by simp) (by simp)) OwnL.nil0), ?_⟩
  simp only [List.length_append, List.length_cons, List.length_nil] at w0 ⊢
  refine Wi.mono (a := σ.length) ?_ (Nat.le_refl _) (Nat.le_refl _)
  exact wi_last w0 (by omega) (by omega)
end Go.Proofs.YtnnnemgbgilfaaaDoor.W

end


section
open Go Go.Ab
namespace Go.Proofs.YtnnnemgbgilfaaaDoor.W
structure SheetRule where
  Key : List UInt8
  Args : List Int
  Many : Bool
  Default : List (List UInt8)
def SheetRule.ts (x : SheetRule) : List T := [.str x.Key, .lst 1 (x.Args.map tInt), .bool x.Many, .lst 1 (x.Default.map tStr)]
abbrev SheetRule.vs (x : SheetRule) : List V := [.t (.str x.Key), .t (.lst 1 (x.Args.map tInt)), .t (.bool x.Many), .t (.lst 1 (x.Default.map tStr))]
structure SheetRule.Ok (x : SheetRule) : Prop where
  Key : x.Key.length ≤ 1048576
  Args : IntsOk x.Args
  Default : StrsOk x.Default
abbrev tSheetRuleS (l : List SheetRule) : T := .lst 4 (l.map SheetRule.ts)
abbrev SheetRule.OkS (l : List SheetRule) : Prop := l.length ≤ 1048576 ∧ ∀ y ∈ l, y.Ok
structure SheetLine where
  Key : List UInt8
  Words : List (List UInt8)
def SheetLine.ts (x : SheetLine) : List T := [.str x.Key, .lst 1 (x.Words.map tStr)]
abbrev SheetLine.vs (x : SheetLine) : List V := [.t (.str x.Key), .t (.lst 1 (x.Words.map tStr))]
structure SheetLine.Ok (x : SheetLine) : Prop where
  Key : x.Key.length ≤ 1048576
  Words : StrsOk x.Words
abbrev tSheetLineS (l : List SheetLine) : T := .lst 2 (l.map SheetLine.ts)
abbrev SheetLine.OkS (l : List SheetLine) : Prop := l.length ≤ 1048576 ∧ ∀ y ∈ l, y.Ok
theorem of_SheetLine {ts : List T} (h : T.isL shSheetLine ts) : ∃ x : SheetLine, ts = x.ts ∧ (T.sizeL ts ≤ 1048576 → x.Ok) := by
  obtain ⟨n0, n1, rfl, b0, b1⟩ := isSheetLine h
  obtain ⟨l1, rfl, c1⟩ := of_strs b1
  refine ⟨⟨n0, l1⟩, rfl, fun hz => ?_⟩
  rw [sizeSheetLine] at hz
  exact ⟨by simp only; omega, c1 (by omega)⟩
theorem of_SheetLineS {t : T} (h : T.is (.sl 2 shSheetLine) t) : ∃ l : List SheetLine, t = .lst 2 (l.map SheetLine.ts) ∧ (t.size ≤ 1048576 → SheetLine.OkS l) := of_list (fun ts h => of_SheetLine h) h
structure SheetBlock where
  Kind : List UInt8
  Name : List UInt8
  Lines : List SheetLine
def SheetBlock.ts (x : SheetBlock) : List T := [.str x.Kind, .str x.Name, .lst 2 (x.Lines.map SheetLine.ts)]
abbrev SheetBlock.vs (x : SheetBlock) : List V := [.t (.str x.Kind), .t (.str x.Name), .t (.lst 2 (x.Lines.map SheetLine.ts))]
structure SheetBlock.Ok (x : SheetBlock) : Prop where
  Kind : x.Kind.length ≤ 1048576
  Name : x.Name.length ≤ 1048576
  Lines : SheetLine.OkS x.Lines
abbrev SheetBlock.OkS (l : List SheetBlock) : Prop := l.length ≤ 1048576 ∧ ∀ y ∈ l, y.Ok
theorem of_SheetBlock {ts : List T} (h : T.isL shSheetBlock ts) : ∃ x : SheetBlock, ts = x.ts ∧ (T.sizeL ts ≤ 1048576 → x.Ok) := by
  obtain ⟨n0, n1, n2, rfl, b0, b1, b2⟩ := isSheetBlock h
  obtain ⟨l2, rfl, c2⟩ := of_SheetLineS b2
  refine ⟨⟨n0, n1, l2⟩, rfl, fun hz => ?_⟩
  rw [sizeSheetBlock] at hz
  exact ⟨by simp only; omega, by simp only; omega, c2 (by omega)⟩
theorem of_SheetBlockS {t : T} (h : T.is (.sl 3 shSheetBlock) t) : ∃ l : List SheetBlock, t = .lst 3 (l.map SheetBlock.ts) ∧ (t.size ≤ 1048576 → SheetBlock.OkS l) := of_list (fun ts h => of_SheetBlock h) h
structure Sheet where
  Blocks : List SheetBlock
def Sheet.ts (x : Sheet) : List T := [.lst 3 (x.Blocks.map SheetBlock.ts)]
abbrev Sheet.vs (x : Sheet) : List V := [.t (.lst 3 (x.Blocks.map SheetBlock.ts))]
structure Sheet.Ok (x : Sheet) : Prop where
  Blocks : SheetBlock.OkS x.Blocks
abbrev Sheet.OkS (l : List Sheet) : Prop := l.length ≤ 1048576 ∧ ∀ y ∈ l, y.Ok
theorem of_Sheet {ts : List T} (h : T.isL shSheet ts) : ∃ x : Sheet, ts = x.ts ∧ (T.sizeL ts ≤ 1048576 → x.Ok) := by
  obtain ⟨n0, rfl, b0⟩ := isSheet h
  obtain ⟨l0, rfl, c0⟩ := of_SheetBlockS b0
  refine ⟨⟨l0⟩, rfl, fun hz => ?_⟩
  rw [sizeSheet] at hz
  exact ⟨c0 (by omega)⟩
end Go.Proofs.YtnnnemgbgilfaaaDoor.W

end
