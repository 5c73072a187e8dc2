/- What the laws' own helpers do with these structs: sizes, copies, comparing (printed by laws.py). Conditions: none. -/
/- The program's structs as Lean structures, their trees (printed by types.py). Conditions: none. -/
import Derived.Test.YtkppdeobinefbaaAb3
import Derived.IntWalk
import Derived.Test.YtkppdeobinefbaaProg
import Derived.KernelRfl
set_option linter.unusedSimpArgs false
set_option linter.unusedVariables false
set_option linter.defProp false

section
open Go Go.Ab
set_option maxHeartbeats 4000000
set_option maxRecDepth 20000
namespace Go.Proofs.Ytkppdeobinefbaa.W
theorem i_eqStringS : Is Try.prog 21 26 [(.tmp 4)] (tEq1) := ⟨_, _, Try.func21, by decide +kernel, rfl, rfl, by kernel_rfl, rfl⟩
theorem eqStringS : EqOk Try.prog 21 (.sl 1 [.str]) := eqStr_ok i_eqStringS
def shSheetCut : List Sh := [.sl 1 [.str], .bool]
theorem isSheetCut {ts : List T} (ht : T.isL shSheetCut ts) : ∃ n0 n1, ts = [n0, (.bool n1)] ∧ T.is (.sl 1 [.str]) n0 := by
  simp only [shSheetCut, isL_cons, isL_nil, is_int, is_bool, is_str] at ht
  obtain ⟨n0, _, rfl, b0, _, _, rfl, ⟨n1, rfl⟩, rfl⟩ := ht
  exact ⟨_, _, rfl, b0⟩
theorem mkSheetCut {n0} {n1} (b0 : T.is (.sl 1 [.str]) n0) : T.isL shSheetCut [n0, (.bool n1)] := by
  simp only [shSheetCut, isL_cons, isL_nil, is_int, is_bool, is_str]
  exact ⟨_, _, rfl, b0, _, _, rfl, ⟨_, rfl⟩, rfl⟩
theorem sizeSheetCut {n0} {n1} : T.sizeL [n0, (.bool n1)] = n0.size := by
  simp only [sizeL_cons, sizeL_nil, size_int, size_bool, size_str]
  try omega
def c_laws_eqSheetCut : C := (.seq (.ops [⟨(some 2), none, (.box (.t 0))⟩, ⟨(some 3), none, (.box (.t 1))⟩, ⟨(some 4), none, (.mv (.c (.t (.bool false))))⟩]) (.seq (.seq (.ops [⟨(some 5), none, (.fieldAddr 0 (.t 2))⟩, ⟨(some 6), none, (.load none (.t 5))⟩, ⟨(some 7), none, (.fieldAddr 0 (.t 3))⟩, ⟨(some 8), none, (.load none (.t 7))⟩, ⟨(some 9), none, (.call (.c (.fn (.func 21) [])) [(.t 6), (.t 8)])⟩, ⟨(some 10), none, (.un .not (.t 9))⟩]) (.cond (.t 10) (.seq (.ops [⟨(some 4), none, (.mv (.c (.t (.bool false))))⟩]) .ret) .skip)) (.seq (.seq (.ops [⟨(some 11), none, (.fieldAddr 1 (.t 2))⟩, ⟨(some 12), none, (.load none (.t 11))⟩, ⟨(some 13), none, (.fieldAddr 1 (.t 3))⟩, ⟨(some 14), none, (.load none (.t 13))⟩, ⟨(some 15), none, (.eqB true (.t 12) (.t 14))⟩]) (.cond (.t 15) (.seq (.ops [⟨(some 4), none, (.mv (.c (.t (.bool false))))⟩]) .ret) .skip)) (.seq (.ops [⟨(some 4), none, (.mv (.c (.t (.bool true))))⟩]) .ret))))
theorem k_laws_eqSheetCut : comp Try.prog 16 (Try.f10.body.getD .skip) = some c_laws_eqSheetCut := by kernel_rfl

theorem eqSheetCut : EqLOk Try.prog 10 shSheetCut := by
  rintro ts σ ht h1
  obtain ⟨n0, n1, rfl, b0⟩ := isSheetCut ht
  rw [sizeSheetCut] at h1
  refine acalls_of Try.func10 (by decide +kernel) (code := Try.f10.body.getD .skip) (n := 16) (c := c_laws_eqSheetCut) (rs := [(.tmp 4)]) rfl rfl k_laws_eqSheetCut (by kernel_rfl) (by simp) (fun hσ => ?_)
  simp -implicitDefEqProofs only [c_laws_eqSheetCut, ne_self, beq_self_eq_true, S0, S1, S2, S3, S4, S5, S6, S7, S8, S9, S10, S11, S12, S13, S14, S15, S16, opv, opvs, eget, env0, setD, lenStr, lenSl, isNilP, isNilS, putAt, if_true, if_false, reduceCtorEq, Nat.reduceLeDiff, Nat.reduceEqDiff, Nat.reduceSub, Nat.reduceMul, Nat.reduceAdd]
  refine call_pure (eqStringS n0 _ b0 (by omega)) ?_
  simp -implicitDefEqProofs only [ne_self, beq_self_eq_true, S0, S1, S2, S3, S4, S5, S6, S7, S8, S9, S10, S11, S12, S13, S14, S15, S16, opv, opvs, eget, env0, setD, lenStr, lenSl, isNilP, isNilS, putAt, if_true, if_false, reduceCtorEq, Nat.reduceLeDiff, Nat.reduceEqDiff, Nat.reduceSub, Nat.reduceMul, Nat.reduceAdd]
  exact ret_same rfl hσ rfl ⟨rfl, rfl⟩
theorem eqSheetCut_x {n0} {n1} (σ : Store) (b0 : T.is (.sl 1 [.str]) n0) (hz : n0.size ≤ 1099511627776) : ACalls Try.prog 10 [.agg [.t n0, .t (.bool n1)], .agg [.t n0, .t (.bool n1)]] σ (TrueR σ) := by
  have h := eqSheetCut [n0, (.bool n1)] σ (mkSheetCut b0) (by rw [sizeSheetCut]; omega)
  exact h
end Go.Proofs.Ytkppdeobinefbaa.W

end


section
open Go Go.Ab
namespace Go.Proofs.Ytkppdeobinefbaa.W
structure SheetCut where
  Words : List (List UInt8)
  Bad : Bool
def SheetCut.ts (x : SheetCut) : List T := [.lst 1 (x.Words.map tStr), .bool x.Bad]
abbrev SheetCut.vs (x : SheetCut) : List V := [.t (.lst 1 (x.Words.map tStr)), .t (.bool x.Bad)]
theorem SheetCut.vs_ts (x : SheetCut) : x.ts.map V.t = x.vs := rfl
structure SheetCut.Ok (x : SheetCut) : Prop where
  Words : StrsOk x.Words
abbrev tSheetCutS (l : List SheetCut) : T := .lst 2 (l.map SheetCut.ts)
abbrev SheetCut.OkS (l : List SheetCut) : Prop := l.length ≤ 1048576 ∧ ∀ y ∈ l, y.Ok
theorem of_SheetCut {ts : List T} (h : T.isL shSheetCut ts) : ∃ x : SheetCut, ts = x.ts ∧ (T.sizeL ts ≤ 1048576 → x.Ok) := by
  obtain ⟨n0, n1, rfl, b0⟩ := isSheetCut h
  obtain ⟨l0, rfl, c0⟩ := of_strs b0
  refine ⟨⟨l0, n1⟩, rfl, fun hz => ?_⟩
  rw [sizeSheetCut] at hz
  exact ⟨c0 (by omega)⟩
theorem of_SheetCutS {t : T} (h : T.is (.sl 2 shSheetCut) t) : ∃ l : List SheetCut, t = .lst 2 (l.map SheetCut.ts) ∧ (t.size ≤ 1048576 → SheetCut.OkS l) := of_list (fun ts h => of_SheetCut h) h
end Go.Proofs.Ytkppdeobinefbaa.W

end
