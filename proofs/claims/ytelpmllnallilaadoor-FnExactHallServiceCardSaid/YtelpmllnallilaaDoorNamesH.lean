/- Names and beginnings of texts. Conditions: none. -/
import Derived.Test.YtelpmllnallilaaDoorTypesHallE
import Derived.KernelRfl
set_option linter.unusedSimpArgs false
set_option linter.unusedVariables false
set_option linter.defProp false
open Go Go.Ab
set_option maxHeartbeats 2000000
namespace Go.Proofs.YtelpmllnallilaaDoor.W
def wi (n lo hi : Int) : Bool := decide (lo ≤ n) && decide (n ≤ hi)
def c_spec_l1In : C := (.seq (.ops [⟨(some 6), none, (.mv (.c (.t (.bool false))))⟩]) (.seq (.ops [⟨(some 7), none, (.mv (.t 0))⟩, ⟨(some 8), none, (.mv (.t 1))⟩, ⟨(some 9), none, (.bin .geq (.t 7) (.t 8))⟩, ⟨(some 10), none, (.mv (.t 9))⟩, ⟨(some 11), (some ⟨10, true⟩), (.mv (.t 0))⟩, ⟨(some 12), (some ⟨10, true⟩), (.mv (.t 2))⟩, ⟨(some 13), (some ⟨10, true⟩), (.bin .leq (.t 11) (.t 12))⟩, ⟨(some 14), none, (.pick (.t 10) (.t 13) (.c (.t (.bool false))))⟩, ⟨(some 6), none, (.mv (.t 14))⟩]) .ret))
theorem k_spec_l1In : comp Tryd.prog 15 (Tryd.f21.body.getD .skip) = some c_spec_l1In := by kernel_rfl

theorem spec_l1In (n lo hi : Int)  (σ : Store) : ACalls Tryd.prog 21 [.t (.int .i64 (n)), .t (.int .i64 (lo)), .t (.int .i64 (hi))] σ fun rr σ' => rr = .t (.bool (wi n lo hi)) ∧ σ' = σ := by
  refine acalls_of Tryd.func21 (by decide +kernel) (code := Tryd.f21.body.getD .skip) (n := 15) (c := c_spec_l1In) (rs := [(.tmp 6)]) rfl rfl k_spec_l1In (by kernel_rfl) (by simp) (fun hσ => ?_)
  have hh : True := trivial
  have fin : ∀ {u : V} {τ : Store}, u = .t (.bool (wi n lo hi)) → u.lt σ.length = true → retV σ.length (fun rr σ' => rr = .t (.bool (wi n lo hi)) ∧ σ' = σ) (σ ++ τ) (some [u]) := fun h h2 => ret_same rfl hσ h2 ⟨h, rfl⟩
  have fin0 : ∀ {u : V}, u = .t (.bool (wi n lo hi)) → retV σ.length (fun rr σ' => rr = .t (.bool (wi n lo hi)) ∧ σ' = σ) σ (some [u]) := fun h => ret_same0 rfl ⟨h, rfl⟩
  simp -implicitDefEqProofs only [c_spec_l1In, S0, S1, S2, S3, S4, S5, S6, S7, S8, S9, S10, S11, S12, S13, S14, S15, S16, S17, opv, opvs, eget, env0, setD, lenStr, lenSl, isNilP, isNilS, putAt, if_true, if_false, reduceCtorEq, Nat.reduceLeDiff, Nat.reduceEqDiff, Nat.reduceSub, Nat.reduceMul, Nat.reduceAdd]
  repeat' (first
    | ((with_reducible refine cond_known (fun h => ?_) (fun h => ?_)) <;> (replace hh := And.intro h hh; clear h; simp -implicitDefEqProofs only [hh, cond_t, cond_f, S0, S1, S2, S3, S4, S5, S6, S7, S8, S9, S10, S11, S12, S13, S14, S15, S16, S17, opv, opvs, eget, env0, setD, lenStr, lenSl, isNilP, isNilS, putAt, if_true, if_false, reduceCtorEq, Nat.reduceLeDiff, Nat.reduceEqDiff, Nat.reduceSub, Nat.reduceMul, Nat.reduceAdd]))
    | (first | ((with_reducible refine fin0 ?_); refine tb ?_; (try simp only [Known] at hh); grind [wi]) | ((with_reducible refine fin ?_ ?_); rotate_left; exact rfl; refine tb ?_; (try simp only [Known] at hh); grind [wi])))

end Go.Proofs.YtelpmllnallilaaDoor.W
