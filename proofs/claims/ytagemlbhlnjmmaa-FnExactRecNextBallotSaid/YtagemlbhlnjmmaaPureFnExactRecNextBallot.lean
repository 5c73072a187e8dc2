/- The program's RecNextBallot returns what the reference's returns, for all arguments. Conditions: none. -/
import Derived.Test.YtagemlbhlnjmmaaPFnExactRecNextBallotx1
namespace Go.Proofs.Ytagemlbhlnjmmaa.Pure
open Go.RowKit Go.Proofs.Ytagemlbhlnjmmaa.PFnExactRecNextBallot Go.Proofs.YtagemlbhlnjmmaaW.PrintWords Go.Proofs.YtagemlbhlnjmmaaW.PrintLast

theorem nb_wrap {x : Int} (h0 : 0 ≤ x) (h : x ≤ 100000000) : wrap64 x = x := by unfold wrap64; omega

theorem nb_loop (n o t : Int) (ho : 1 ≤ o) (ho5 : o ≤ 5) (hn1 : 1 ≤ n) (ht : t % o = n % o) (h0t : 0 ≤ t) (htm : t ≤ 2000000) :
    ∀ (d k : Nat) (x : Int), 0 ≤ x → t - x = d → (d : Int) < o → d < k → impl_RecNextBallot.l0 k n o x = some (if t > 1000000 then 0 else t) := by
  intro d
  induction d with
  | zero =>
    intro k x hx hd hdo hk
    obtain ⟨k, rfl⟩ : ∃ m, k = m + 1 := ⟨k - 1, by omega⟩
    obtain rfl : x = t := by omega
    simp only [impl_RecNextBallot.l0]
    by_cases h : x ≤ 1000000
    · rw [if_pos h, if_neg (by omega), if_pos (by rw [Int.tmod_eq_emod_of_nonneg hx, Int.tmod_eq_emod_of_nonneg (by omega)]; exact ht), if_neg (by omega)]
    · rw [if_neg h, if_pos (by omega)]
  | succ d ih =>
    intro k x hx hd hdo hk
    obtain ⟨k, rfl⟩ : ∃ m, k = m + 1 := ⟨k - 1, by omega⟩
    simp only [impl_RecNextBallot.l0]
    by_cases h : x ≤ 1000000
    · have hne : ¬ (Int.tmod x o = Int.tmod n o) := by
        rw [Int.tmod_eq_emod_of_nonneg hx, Int.tmod_eq_emod_of_nonneg (by omega), ← ht]
        obtain h | h | h | h | h : o = 1 ∨ o = 2 ∨ o = 3 ∨ o = 4 ∨ o = 5 := by omega
        all_goals (subst h; omega)
      rw [if_pos h, if_neg (by omega), if_neg hne, nb_wrap (by omega) (by omega)]
      exact ih k (x + 1) (by omega) (by omega) (by omega) (by omega)
    · rw [if_neg h, if_pos (by omega)]

theorem nb_some (n o a : Int) (ho : 1 ≤ o) (ho5 : o ≤ 5) (hn1 : 1 ≤ n) (hno : n ≤ o) (ha : 0 ≤ a) (ham : a ≤ 1000000) (k : Nat) (hk : 8 < k) :
    ∃ r, spec_RecNextBallot.j0 k a n o false = some r ∧ impl_RecNextBallot.j0 k a n o false = some r := by
  obtain ⟨k, rfl⟩ : ∃ m, k = m + 1 := ⟨k - 1, by omega⟩
  simp only [spec_RecNextBallot.j0, impl_RecNextBallot.j0, Bool.false_eq_true, if_false]
  rw [if_neg (by omega), Int.tdiv_eq_ediv_of_nonneg ha]
  have hq0 : 0 ≤ a / o := Int.ediv_nonneg ha (by omega)
  have hq : a / o * o ≤ a := Int.ediv_mul_le a (by omega)
  have hq1 : a < a / o * o + o := by have := Int.lt_ediv_add_one_mul_self a (show 0 < o by omega); rw [Int.add_mul] at this; omega
  have hqa : a / o ≤ a := by
    have : a / o * 1 ≤ a / o * o := Int.mul_le_mul_of_nonneg_left ho hq0
    omega
  have hm0 : 0 ≤ a / o * o := Int.mul_nonneg hq0 (by omega)
  rw [nb_wrap hq0 (by omega), nb_wrap hm0 (by omega), nb_wrap (x := a / o * o + n) (by omega) (by omega), nb_wrap (x := a / o * o + n + o) (by omega) (by omega), nb_wrap (x := a + 1) (by omega) (by omega)]
  have key : ∀ e : Int, (e = 0 ∨ e = 1) → (a / o * o + n + e * o) % o = n % o := by
    intro e he
    rw [show a / o * o + n + e * o = n + (a / o + e) * o from by rw [Int.add_mul]; omega]
    exact Int.add_mul_emod_self_right n (a / o + e) o
  by_cases h : a / o * o + n ≤ a
  · rw [if_pos h]
    have h1 := key 1 (.inr rfl)
    rw [Int.one_mul] at h1
    refine ⟨_, ?_, nb_loop n o (a / o * o + n + o) ho ho5 hn1 h1 (by omega) (by omega) (a / o * o + n + o - (a + 1)).toNat k (a + 1) (by omega) (by omega) (by omega) (by omega)⟩
    split <;> rfl
  · rw [if_neg h]
    have h1 := key 0 (.inl rfl)
    rw [Int.zero_mul, Int.add_zero] at h1
    refine ⟨_, ?_, nb_loop n o (a / o * o + n) ho ho5 hn1 h1 (by omega) (by omega) (a / o * o + n - (a + 1)).toNat k (a + 1) (by omega) (by omega) (by omega) (by omega)⟩
    split <;> rfl

theorem nb_true (n o a : Int) (k : Nat) : spec_RecNextBallot.j0 (k + 1) a n o true = some 0 ∧ impl_RecNextBallot.j0 (k + 1) a n o true = some 0 := by
  constructor <;> simp [spec_RecNextBallot.j0, impl_RecNextBallot.j0]

theorem FnExactRecNextBallot : laws_FnExactRecNextBallot.Pure := by
  intro a n o _ _ _
  refine ⟨9 + 1, ?_⟩
  unfold laws_FnExactRecNextBallot.f spec_RecNextBallot.f impl_RecNextBallot.f spec_l21In.f impl_within_rec.f
  obtain ⟨t1, t2⟩ := nb_true n o a 9
  by_cases h : 1 ≤ o ∧ o ≤ 5 ∧ 1 ≤ n ∧ n ≤ o ∧ 0 ≤ a ∧ a ≤ 1000000
  · obtain ⟨r, h1, h2⟩ := nb_some n o a h.1 h.2.1 h.2.2.1 h.2.2.2.1 h.2.2.2.2.1 h.2.2.2.2.2 (9 + 1) (by omega)
    simp [h, h1, h2]
  · by_cases c1 : 1 ≤ o <;> by_cases c2 : o ≤ 5 <;> by_cases c3 : 1 ≤ n <;> by_cases c4 : n ≤ o <;> by_cases c5 : 0 ≤ a <;> by_cases c6 : a ≤ 1000000 <;>
      first
      | (exfalso; omega)
      | simp [c1, c2, c3, c4, c5, c6, t1, t2]

end Go.Proofs.Ytagemlbhlnjmmaa.Pure
