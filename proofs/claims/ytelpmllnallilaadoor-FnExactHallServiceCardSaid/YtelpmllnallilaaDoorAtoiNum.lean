/- What strconv.Atoi gives of a decimal. Conditions: none. -/
import Derived.Test.YtelpmllnallilaaDoorGateNumH
import Derived.Lib.AtoiTie
set_option linter.unusedSimpArgs false
set_option linter.unusedVariables false
set_option linter.defProp false
namespace Go.Proofs.YtelpmllnallilaaDoor.W
open Go Go.Ab
theorem dec_from : ∀ (s : List UInt8) (acc : Nat), s.all digB = true → Lib.decFrom acc s = some (s.foldl (fun n c => 10 * n + (c.toNat - 48)) acc)
  | [], acc, _ => rfl
  | c :: s, acc, h => by
    rw [List.all_cons, Bool.and_eq_true] at h
    have hb := dig_bnd h.1
    rw [Lib.decFrom, Lib.digitVal, if_pos ⟨hb.1, hb.2⟩, List.foldl_cons]
    simp only
    rw [dec_from s _ h.2, Nat.mul_comm acc 10]
theorem dec_parts {s : List UInt8} (h : decG s = true) : s ≠ [] ∧ s.length ≤ 7 ∧ s.all digB = true := by
  simp only [decG, Bool.and_eq_true, Bool.not_eq_true', Bool.or_eq_false_iff] at h
  obtain ⟨⟨⟨h1, h2⟩, _⟩, h3⟩ := h
  exact ⟨by simpa using h1, by simp at h2; omega, h3⟩
theorem atoi_dec {s : List UInt8} (h : decG s = true) : Lib.atoiAll s = .ok ((valN s : Nat) : Int) := by
  obtain ⟨h1, h2, h3⟩ := dec_parts h
  rw [Lib.atoiAll_short s (by omega)]
  match s, h1 with
  | c :: r, _ =>
    have hc : digB c = true := by rw [List.all_cons, Bool.and_eq_true] at h3; exact h3.1
    have hb := dig_bnd hc
    have e1 : (c == 45) = false := by
      rw [beq_eq_false_iff_ne]; rintro rfl; simp at hb
    have e2 : (c == 43) = false := by
      rw [beq_eq_false_iff_ne]; rintro rfl; simp at hb
    simp only [Lib.atoi, e1, e2, Bool.false_eq_true, if_false, Lib.decNat, List.isEmpty_cons]
    rw [dec_from _ _ h3]
    rfl
end Go.Proofs.YtelpmllnallilaaDoor.W
