/- Small laws for loops that make objects. Conditions: none (a library of lemmas). -/
import Derived.Test.YtleilaipdhmgeaaAbN
set_option linter.unusedSimpArgs false
set_option linter.unusedVariables false
set_option linter.defProp false
namespace Go.Ab
mutual
theorem V.lt_mono {m n : Nat} (h : m ≤ n) : ∀ u : V, u.lt m = true → u.lt n = true
  | .t _, _ => rfl
  | .nils, _ => rfl
  | .nilp, _ => rfl
  | .nilf, _ => rfl
  | .nili, _ => rfl
  | .pv _, _ => rfl
  | .ptr id _, k => by simp only [V.lt, decide_eq_true_eq] at k ⊢; omega
  | .ep id _ _ _, k => by simp only [V.lt, decide_eq_true_eq] at k ⊢; omega
  | .sl id _ _ _, k => by simp only [V.lt, decide_eq_true_eq] at k ⊢; omega
  | .map id, k => by simp only [V.lt, decide_eq_true_eq] at k ⊢; omega
  | .rows _ rs, k => by simp only [V.lt] at k ⊢; exact V.ltss_mono h rs k
  | .agg cs, k => by simp only [V.lt] at k ⊢; exact V.lts_mono h cs k
  | .tup cs, k => by simp only [V.lt] at k ⊢; exact V.lts_mono h cs k
  | .fn _ cs, k => by simp only [V.lt] at k ⊢; exact V.lts_mono h cs k
  | .iface _ u, k => by simp only [V.lt] at k ⊢; exact V.lt_mono h u k
theorem V.lts_mono {m n : Nat} (h : m ≤ n) : ∀ us : List V, V.lts m us = true → V.lts n us = true
  | [], _ => rfl
  | u :: us, k => by
    simp only [V.lts, Bool.and_eq_true] at k ⊢
    exact ⟨V.lt_mono h u k.1, V.lts_mono h us k.2⟩
theorem V.ltss_mono {m n : Nat} (h : m ≤ n) : ∀ rs : List (List V), V.ltss m rs = true → V.ltss n rs = true
  | [], _ => rfl
  | r :: rs, k => by
    simp only [V.ltss, Bool.and_eq_true] at k ⊢
    exact ⟨V.lts_mono h r k.1, V.ltss_mono h rs k.2⟩
end
theorem Obj.lt_mono {m n : Nat} (h : m ≤ n) : ∀ o : Obj, o.lt m = true → o.lt n = true
  | .box cs, k => V.lts_mono h cs k
  | .slc _ rows, k => V.ltss_mono h rows k
  | .map _ es, k => by
    simp only [Obj.lt, List.all_eq_true, Bool.and_eq_true] at k ⊢
    exact fun p hp => ⟨V.lt_mono h _ (k p hp).1, V.lt_mono h _ (k p hp).2⟩
theorem ltσ_mono {m n : Nat} (h : m ≤ n) {σ : Store} (k : ltσ m σ = true) : ltσ n σ = true := by
  simp only [ltσ, List.all_eq_true] at k ⊢
  exact fun o ho => Obj.lt_mono h o (k o ho)
theorem ltss_map {α : Type} {m : Nat} {f : α → List V} (h : ∀ x, V.lts m (f x) = true) : ∀ l : List α, V.ltss m (l.map f) = true
  | [] => rfl
  | x :: l => by simp only [List.map_cons, V.ltss, h x, ltss_map h l, Bool.and_self]
/-- A round's end: what the round made goes, a list of objects ρ ahead of it stays. -/
theorem cut_mid {b : Nat} {e : Env} {σ ρ τ : Store} {ks : List Nat} {m : Nat} (hm : σ.length + ρ.length = m) (h : b ≤ m) (he : ltE m (keep ks e) = true) (hσ : ltσ σ.length σ = true) (hρ : ltσ m ρ = true) : CutOk b ⟨.go, e, σ ++ (ρ ++ τ)⟩ ks m := by
  subst hm
  refine ⟨h, .inr ⟨he, ?_⟩⟩
  rw [← List.append_assoc, show (σ ++ ρ ++ τ).take (σ.length + ρ.length) = σ ++ ρ by rw [← List.length_append]; exact List.take_left ..]
  rw [q_ltσ_app, ltσ_mono (Nat.le_add_right _ _) hσ, hρ]
  rfl
end Go.Ab
