/- Teams that are ok. Conditions: none. -/
import Derived.Test.YtcjchimenfadkaaNamesM
import Derived.Test.YtcjchimenfadkaaAb4
import Derived.KernelRfl
set_option linter.unusedSimpArgs false
set_option linter.unusedVariables false
set_option linter.defProp false
open Go Go.Ab
set_option maxHeartbeats 2000000
namespace Go.Proofs.Ytcjchimenfadkaa.W
theorem less_irr : ∀ a : List UInt8, Op.bytesLess a a = false
  | [] => rfl
  | x :: a => by simp [Op.bytesLess, less_irr a]
theorem less_trans : ∀ {a b c : List UInt8}, Op.bytesLess a b = true → Op.bytesLess b c = true → Op.bytesLess a c = true
  | [], b, c => by
    intro h1 h2
    cases b <;> cases c <;> simp_all [Op.bytesLess]
  | x :: a, b, c => by
    intro h1 h2
    cases b with
    | nil => simp [Op.bytesLess] at h1
    | cons y b =>
      cases c with
      | nil => simp [Op.bytesLess] at h2
      | cons z c =>
        simp only [Op.bytesLess, Bool.or_eq_true, Bool.and_eq_true, decide_eq_true_eq, beq_iff_eq] at h1 h2 ⊢
        rcases h1 with h1 | ⟨h1, h1'⟩ <;> rcases h2 with h2 | ⟨h2, h2'⟩
        · exact .inl (UInt8.lt_trans h1 h2)
        · subst h2; exact .inl h1
        · subst h1; exact .inl h2
        · subst h1; subst h2; exact .inr ⟨rfl, less_trans h1' h2'⟩
theorem all_zip {α : Type} {l : List α} {p : α × Nat → Bool} : l.zipIdx.all p = true ↔ ∀ i x, l[i]? = some x → p (x, i) = true := by
  rw [List.all_eq_true]
  constructor
  · intro h i x hx
    exact h (x, i) (List.mem_of_getElem? (zip_at hx))
  · rintro h ⟨x, i⟩ hx
    exact h i x (by simpa using List.mem_zipIdx_iff_getElem?.1 hx)
end Go.Proofs.Ytcjchimenfadkaa.W
