/- Decimals: a text of digits is what its number is written as, unless it begins with a needless zero. Conditions: none. -/
import Derived.Test.YtelpmllnallilaaDoorAb4
import Derived.KernelRfl
set_option linter.unusedSimpArgs false
set_option linter.unusedVariables false
set_option linter.defProp false
open Go Go.Ab
set_option maxHeartbeats 2000000
namespace Go.Proofs.YtelpmllnallilaaDoor.W
def digB (c : UInt8) : Bool := decide (48 ≤ c.toNat) && decide (c.toNat ≤ 57)
def valN (s : List UInt8) : Nat := s.foldl (fun n c => 10 * n + (c.toNat - 48)) 0
theorem valN_app (s : List UInt8) (c : UInt8) : valN (s ++ [c]) = 10 * valN s + (c.toNat - 48) := by simp [valN]
theorem dig_lt {c : UInt8} (h : digB c = true) : c.toNat - 48 < 10 := by
  simp only [digB, Bool.and_eq_true, decide_eq_true_eq] at h
  omega
theorem valN_lt : ∀ (s : List UInt8), s.all digB = true → valN s < 10 ^ s.length := by
  have key : ∀ (n : Nat) (s : List UInt8), s.length = n → s.all digB = true → valN s < 10 ^ n := by
    intro n
    induction n with
    | zero => intro s hs _; rw [List.eq_nil_of_length_eq_zero hs]; decide
    | succ n ih =>
      intro s hs hd
      have hne : s ≠ [] := by rintro rfl; simp at hs
      obtain ⟨t, d, rfl⟩ : ∃ t d, s = t ++ [d] := ⟨s.dropLast, s.getLast hne, (List.dropLast_concat_getLast hne).symm⟩
      simp only [List.length_append, List.length_cons, List.length_nil] at hs
      simp only [List.all_append, List.all_cons, List.all_nil, Bool.and_true, Bool.and_eq_true] at hd
      have := ih t (by omega) hd.1
      have := dig_lt hd.2
      rw [valN_app, Nat.pow_succ]
      omega
  exact fun s => key _ s rfl
end Go.Proofs.YtelpmllnallilaaDoor.W
