/- The marks' text. Conditions: none. -/
import Derived.Test.YtleilaipdhmgeaaAbV
import Derived.IntWalk
import Derived.Test.YtleilaipdhmgeaaProg
import Derived.KernelRfl
set_option linter.unusedSimpArgs false
set_option linter.unusedVariables false
set_option linter.defProp false
open Go Go.Ab
namespace Go.Proofs.Ytleilaipdhmgeaa.W
def c_laws_markText : C := (.seq (.ops [⟨(some 2), none, (.mv (.c (.t (.str []))))⟩]) (.seq (.seq (.ops [⟨(some 4), none, (.mv (.t 0))⟩, ⟨(some 5), none, (.bin .leq (.t 4) (.c (.t (.int .i64 0))))⟩]) (.cond (.t 5) (.seq (.ops [⟨(some 2), none, (.mv (.c (.t (.str [109, 48]))))⟩]) .ret) .skip)) (.seq (.ops [⟨(some 3), none, (.mv (.c (.t (.str []))))⟩]) (.seq (.block 0 (.loop (.seq (.seq (.ops [⟨(some 6), none, (.mv (.t 0))⟩, ⟨(some 7), none, (.bin .gtr (.t 6) (.c (.t (.int .i64 0))))⟩]) (.cond (.t 7) .skip (.exit 0))) (.block 1 (.seq (.ops [⟨(some 8), none, (.mv (.t 0))⟩, ⟨(some 9), none, (.bin .rem (.t 8) (.c (.t (.int .i64 10))))⟩, ⟨(some 10), none, (.bin .add (.c (.t (.int .i64 48))) (.t 9))⟩, ⟨(some 11), none, (.convInt .u8 (.t 10))⟩, ⟨(some 12), none, (.lit none 1 1 [(.t (.int .u8 0))] [⟨0, (.t 11)⟩])⟩, ⟨(some 13), none, (.bytesStr (.t 12))⟩, ⟨(some 14), none, (.mv (.t 3))⟩, ⟨(some 15), none, (.bin .add (.t 13) (.t 14))⟩, ⟨(some 3), none, (.mv (.t 15))⟩]) (.ops [⟨(some 16), none, (.mv (.t 0))⟩, ⟨(some 17), none, (.bin .quo (.t 16) (.c (.t (.int .i64 10))))⟩, ⟨(some 0), none, (.mv (.t 17))⟩])))))) (.seq (.ops [⟨(some 18), none, (.mv (.t 3))⟩, ⟨(some 19), none, (.bin .add (.c (.t (.str [109]))) (.t 18))⟩, ⟨(some 2), none, (.mv (.t 19))⟩]) .ret)))))
theorem k_laws_markText : comp Try.prog 20 (Try.f85.body.getD .skip) = some c_laws_markText := by kernel_rfl

def digit (k : Nat) : UInt8 := UInt8.ofNat (IntKind.u8.wrap (IntKind.i64.wrap (48 + (k : Int).tmod 10))).toNat
def dec (k : Nat) (o : List UInt8) : List UInt8 := if h : k = 0 then o else dec (k / 10) (digit k :: o)
termination_by k
decreasing_by omega
def markTxt (k : Nat) : List UInt8 := 109 :: dec k []

theorem markText (k : Nat) (h1 : 1 ≤ k) (h2 : k < 2 ^ 62) (σ : Store) : ACalls Try.prog 85 [.t (.int .i64 k)] σ fun r σ' => r = .t (.str (markTxt k)) ∧ σ' = σ := by
  refine acalls_of Try.func85 (by decide +kernel) (code := Try.f85.body.getD .skip) (n := 20) (c := c_laws_markText) (rs := [(.tmp 2)]) rfl rfl k_laws_markText (by kernel_rfl) (by simp) (fun hσ => ?_)
  have hpos : decide ((k : Int) ≤ 0) = false := by simp; omega
  simp -implicitDefEqProofs only [c_laws_markText, hpos, S0, S1, S2, S3, S4, S5, S6, S7, S8, S9, S10, S11, S12, S13, S14, S15, opv, opvs, eget, env0, setD, lenStr, lenSl, isNilP, isNilS, putAt, if_true, if_false, reduceCtorEq, Nat.reduceLeDiff, Nat.reduceEqDiff, Nat.reduceSub, Nat.reduceMul, Nat.reduceAdd]
  refine loop_by [0, 3] σ.length (fun n s' => ∃ j o, n = j ∧ j + o.length ≤ k ∧ dec j o = dec k [] ∧ s' = ⟨.go, [(0, .t (.int .i64 (j : Nat))), (3, .t (.str o))], σ⟩) k (cut_all (Nat.le_refl _)) ⟨k, [], rfl, by simp, rfl, ?_⟩ ?_
  · simp [St.cut, keep, eget]
  · rintro j s' ⟨_, o, rfl, hj, hd, rfl⟩
    simp -implicitDefEqProofs only [S0, S1, S2, S3, S4, S5, S6, S7, S8, S9, S10, S11, S12, S13, S14, S15, opv, opvs, eget, env0, setD, lenStr, lenSl, isNilP, isNilS, putAt, if_true, if_false, reduceCtorEq, Nat.reduceLeDiff, Nat.reduceEqDiff, Nat.reduceSub, Nat.reduceMul, Nat.reduceAdd]
    refine cond_split (fun h => ?_) (fun h => ?_)
    · have hj0 : 0 < j := by simpa using h
      have hdec : dec j o = dec (j / 10) (digit j :: o) := by rw [dec]; simp [show ¬ j = 0 by omega]
      have hq : IntKind.i64.wrap ((j : Int).tdiv 10) = ((j / 10 : Nat) : Int) := by
        rw [show (j : Int).tdiv 10 = ((j / 10 : Nat) : Int) by rw [Int.tdiv_eq_ediv_of_nonneg (by omega)]; omega]
        exact IntWalk.i64_in _ (by omega)
      have hten : ((10 : Int) ≠ 0) = True := by simp
      have hlen : (((1 + o.length : Nat)) : Int) ≤ 9223372036854775807 := by omega
      simp -implicitDefEqProofs only [h, hten, S0, S1, S2, S3, S4, S5, S6, S7, S8, S9, S10, S11, S12, S13, S14, S15, opv, opvs, eget, env0, setD, lenStr, lenSl, isNilP, isNilS, putAt, if_true, if_false, reduceCtorEq, Nat.reduceLeDiff, Nat.reduceEqDiff, Nat.reduceSub, Nat.reduceMul, Nat.reduceAdd]
      refine ⟨by omega, lit_rows ?_⟩
      simp -implicitDefEqProofs only [h, hten, q_rows_r, Option.map_some, hlen, hq, S0, S1, S2, S3, S4, S5, S6, S7, S8, S9, S10, S11, S12, S13, S14, S15, opv, opvs, eget, env0, setD, lenStr, lenSl, isNilP, isNilS, putAt, if_true, if_false, reduceCtorEq, Nat.reduceLeDiff, Nat.reduceEqDiff, Nat.reduceSub, Nat.reduceMul, Nat.reduceAdd]
      refine ⟨cut_all (Nat.le_refl _), j / 10, by omega, j / 10, digit j :: o, rfl, by simp; omega, by rw [← hd, hdec], ?_⟩
      simp [St.cut, keep, eget, digit]
    · simp -implicitDefEqProofs only [h, S0, S1, S2, S3, S4, S5, S6, S7, S8, S9, S10, S11, S12, S13, S14, S15, opv, opvs, eget, env0, setD, lenStr, lenSl, isNilP, isNilS, putAt, if_true, if_false, reduceCtorEq, Nat.reduceLeDiff, Nat.reduceEqDiff, Nat.reduceSub, Nat.reduceMul, Nat.reduceAdd]
      have hj0 : j = 0 := by
        have : ¬ (0 : Int) < j := by simpa using h
        omega
      subst hj0
      have ho : o = dec k [] := by rw [← hd, dec]; simp
      have hlen : (((1 + o.length : Nat)) : Int) ≤ 9223372036854775807 := by omega
      simp -implicitDefEqProofs only [hlen, S0, S1, S2, S3, S4, S5, S6, S7, S8, S9, S10, S11, S12, S13, S14, S15, opv, opvs, eget, env0, setD, lenStr, lenSl, isNilP, isNilS, putAt, if_true, if_false, reduceCtorEq, Nat.reduceLeDiff, Nat.reduceEqDiff, Nat.reduceSub, Nat.reduceMul, Nat.reduceAdd]
      exact ret_same0 rfl ⟨by simp [mkRes, markTxt, ho], rfl⟩
theorem textOk : TextOk Try.prog markTxt 85 := fun k σ h1 h2 => markText k h1 (by omega) σ
end Go.Proofs.Ytleilaipdhmgeaa.W
