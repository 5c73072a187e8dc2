/- Words of a line: how they are cut and written, on lists of bytes. Conditions: none. -/
import Derived.Test.YtkppdeobinefbaaAb4
import Derived.KernelRfl
set_option linter.unusedSimpArgs false
set_option linter.unusedVariables false
set_option linter.defProp false
open Go Go.Ab
set_option maxHeartbeats 2000000
namespace Go.Proofs.Ytkppdeobinefbaa.W
def bareB (c : UInt8) : Bool := decide (33 ≤ (c.toNat : Int)) && decide ((c.toNat : Int) ≤ 126) && !((c.toNat : Int) == 34) && !((c.toNat : Int) == 35) && !((c.toNat : Int) == 92)
def selfB (c : UInt8) : Bool := decide (32 ≤ (c.toNat : Int)) && decide ((c.toNat : Int) ≤ 126) && !((c.toNat : Int) == 34) && !((c.toNat : Int) == 92)
def prtB (c : UInt8) : Bool := decide (32 ≤ (c.toNat : Int)) && decide ((c.toNat : Int) ≤ 126)
def hexV (c : UInt8) : Int := if 48 ≤ c.toNat ∧ c.toNat ≤ 57 then (c.toNat : Int) - 48 else if 97 ≤ c.toNat ∧ c.toNat ≤ 102 then (c.toNat : Int) - 87 else -1
def hexS : List UInt8 := [48, 49, 50, 51, 52, 53, 54, 55, 56, 57, 97, 98, 99, 100, 101, 102]
def hexD (n : Nat) : UInt8 := (hexS[n]?).getD 0
def hexP (a b : UInt8) : UInt8 := UInt8.ofNat (IntKind.u8.wrap (IntKind.i64.wrap (IntKind.i64.wrap (16 * hexV a) + hexV b))).toNat
def enc1 (c : UInt8) : List UInt8 := if selfB c = true then [c] else [92, hexD (c.toNat / 16), hexD (c.toNat % 16)]
def encW (w : List UInt8) : List UInt8 := if (!(w == []) && w.all bareB) = true then w else 34 :: (w.flatMap enc1 ++ [34])
def qF : List UInt8 → List UInt8 → Nat → Option (List UInt8 × Nat)
  | [], _, _ => none
  | c :: r, acc, n =>
    if ((c.toNat : Int) == 34) = true then some (acc, n + 1)
    else if ((c.toNat : Int) == 92) = true then match r with
      | a :: b :: r' => if (decide (hexV a < 0) || decide (hexV b < 0)) = true then none else qF r' (acc ++ [hexP a b]) (n + 3)
      | _ => none
    else if prtB c = true then qF r (acc ++ [c]) (n + 1) else none
def wordAt : List UInt8 → Option (List UInt8 × Nat)
  | [] => none
  | c :: r => if ((c.toNat : Int) == 34) = true then (match qF r [] 0 with
      | some (t, k) => some (t, k + 1)
      | none => none) else if ((c :: r).takeWhile bareB).length = 0 then none else some ((c :: r).takeWhile bareB, ((c :: r).takeWhile bareB).length)
/-- What stands behind a word is no word's. -/
def endB (r : List UInt8) : Bool := match r with
  | [] => true
  | c :: _ => (c.toNat : Int) == 32 || (c.toNat : Int) == 35
def cutF (rest : List UInt8) (ws : List (List UInt8)) : Option (List (List UInt8)) :=
  match rest with
  | [] => some ws
  | c :: r =>
    if ((c.toNat : Int) == 32) = true then cutF r ws
    else if ((c.toNat : Int) == 35) = true then some ws
    else match wordAt (c :: r) with
      | none => none
      | some (w, n) => if (endB ((c :: r).drop n) && decide (w.length ≤ 200) && decide (ws.length < 8)) = true then cutF (r.drop (n - 1)) (ws ++ [w]) else none
termination_by rest.length
decreasing_by
  · simp
  · simp; omega
theorem qF_ge : ∀ (m : Nat) (r : List UInt8), r.length ≤ m → ∀ {acc t : List UInt8} {n k : Nat}, qF r acc n = some (t, k) → n + 1 ≤ k ∧ k ≤ n + r.length ∧ t.length ≤ acc.length + r.length := by
  intro m
  induction m with
  | zero =>
    intro r hr acc t n k h
    rw [List.eq_nil_of_length_eq_zero (Nat.le_zero.1 hr)] at h
    simp [qF] at h
  | succ m ih =>
    intro r hr acc t n k h
    match r with
    | [] => simp [qF] at h
    | c :: r =>
      simp only [List.length_cons] at hr
      rw [qF.eq_def] at h
      simp only at h
      split at h
      · simp only [Option.some.injEq, Prod.mk.injEq] at h
        obtain ⟨rfl, rfl⟩ := h
        simp
      · split at h
        · match r with
          | [] => simp at h
          | [a] => simp at h
          | a :: b :: r' =>
            simp only at h
            split at h
            · cases h
            · have := ih r' (by simp at hr; omega) h
              simp only [List.length_append, List.length_cons, List.length_nil] at this ⊢
              omega
        · split at h
          · have := ih r (by omega) h
            simp only [List.length_append, List.length_cons, List.length_nil] at this ⊢
            omega
          · cases h
theorem takeWhile_le {p : UInt8 → Bool} : ∀ l : List UInt8, (l.takeWhile p).length ≤ l.length
  | [] => by simp
  | c :: l => by
    rw [List.takeWhile_cons]
    split
    · simp; exact takeWhile_le l
    · simp
theorem wordAt_ge {r w : List UInt8} {n : Nat} (h : wordAt r = some (w, n)) : 1 ≤ n ∧ n ≤ r.length ∧ w.length ≤ r.length := by
  match r with
  | [] => simp [wordAt] at h
  | c :: r =>
    simp only [wordAt] at h
    split at h
    · split at h
      · rename_i t k hq
        simp only [Option.some.injEq, Prod.mk.injEq] at h
        obtain ⟨rfl, rfl⟩ := h
        have := qF_ge _ _ (Nat.le_refl _) hq
        simp only [List.length_cons, List.length_nil] at this ⊢
        omega
      · cases h
    · split at h
      · cases h
      · simp only [Option.some.injEq, Prod.mk.injEq] at h
        obtain ⟨rfl, rfl⟩ := h
        have := takeWhile_le (p := bareB) (c :: r)
        omega
theorem hex_back : ∀ c : UInt8, decide (hexV (hexD (c.toNat / 16)) < 0) = false ∧ decide (hexV (hexD (c.toNat % 16)) < 0) = false ∧ hexP (hexD (c.toNat / 16)) (hexD (c.toNat % 16)) = c := by
  intro c
  have h : ∀ n : Fin 256, decide (hexV (hexD ((UInt8.ofNat n.val).toNat / 16)) < 0) = false ∧ decide (hexV (hexD ((UInt8.ofNat n.val).toNat % 16)) < 0) = false ∧ hexP (hexD ((UInt8.ofNat n.val).toNat / 16)) (hexD ((UInt8.ofNat n.val).toNat % 16)) = UInt8.ofNat n.val := by decide +kernel
  have := h ⟨c.toNat, c.toNat_lt⟩
  simpa using this
/-- What was written is read again. -/
theorem qF_enc : ∀ (w rest acc : List UInt8) (n : Nat), qF (w.flatMap enc1 ++ 34 :: rest) acc n = some (acc ++ w, n + (w.flatMap enc1).length + 1)
  | [], rest, acc, n => by
    simp only [List.flatMap_nil, List.nil_append, List.append_nil, List.length_nil, Nat.add_zero]
    rw [qF.eq_def]
    rfl
  | c :: w, rest, acc, n => by
    simp only [List.flatMap_cons, List.append_assoc]
    unfold enc1
    split
    · rename_i hs
      have h1 : ((c.toNat : Int) == 34) = false := by simp only [selfB, Bool.and_eq_true, Bool.not_eq_true'] at hs; exact hs.1.2
      have h2 : ((c.toNat : Int) == 92) = false := by simp only [selfB, Bool.and_eq_true, Bool.not_eq_true'] at hs; exact hs.2
      have h3 : prtB c = true := by simp only [selfB, Bool.and_eq_true, Bool.not_eq_true'] at hs; simp only [prtB, Bool.and_eq_true]; exact hs.1.1
      simp only [List.cons_append, List.nil_append]
      rw [qF.eq_def]
      simp only [h1, h2, h3, Bool.false_eq_true, if_false, if_true]
      have := qF_enc w rest (acc ++ [c]) (n + 1)
      unfold enc1 at this
      rw [this]
      simp
      omega
    · obtain ⟨g1, g2, g3⟩ := hex_back c
      simp only [List.cons_append, List.nil_append]
      rw [qF.eq_def]
      have e1 : (((92 : UInt8).toNat : Int) == 34) = false := by decide
      have e2 : (((92 : UInt8).toNat : Int) == 92) = true := by decide
      simp only [e1, e2, g1, g2, g3, Bool.or_self, Bool.false_eq_true, if_false, if_true]
      have := qF_enc w rest (acc ++ [c]) (n + 3)
      unfold enc1 at this
      rw [this]
      simp
      omega
theorem takeWhile_all {p : UInt8 → Bool} : ∀ (w rest : List UInt8), w.all p = true → (∀ c r, rest = c :: r → p c = false) → (w ++ rest).takeWhile p = w
  | [], rest, _, h => by
    cases rest with
    | nil => rfl
    | cons c r => rw [List.nil_append, List.takeWhile_cons, h c r rfl]; rfl
  | a :: w, rest, hw, h => by
    simp only [List.all_cons, Bool.and_eq_true] at hw
    rw [List.cons_append, List.takeWhile_cons, hw.1, if_pos rfl, takeWhile_all w rest hw.2 h]
theorem wordAt_enc (w rest : List UInt8) : wordAt (encW w ++ 32 :: rest) = some (w, (encW w).length) := by
  unfold encW
  split
  · rename_i h
    simp only [Bool.and_eq_true, Bool.not_eq_true', beq_eq_false_iff_ne] at h
    match w, h with
    | c :: w, h =>
      have hc : bareB c = true := by have := h.2; simp only [List.all_cons, Bool.and_eq_true] at this; exact this.1
      have h1 : ((c.toNat : Int) == 34) = false := by simp only [bareB, Bool.and_eq_true, Bool.not_eq_true'] at hc; exact hc.1.1.2
      have ht : ((c :: w) ++ 32 :: rest).takeWhile bareB = c :: w := takeWhile_all _ _ h.2 (fun d r e => by cases e; decide)
      rw [List.cons_append] at ht
      simp only [List.cons_append, wordAt, h1, Bool.false_eq_true, if_false, ht]
      simp
  · simp only [List.cons_append, List.append_assoc, wordAt]
    have := qF_enc w (32 :: rest) [] 0
    simp only [List.nil_append] at this
    have e : (((34 : UInt8).toNat : Int) == 34) = true := by decide
    simp only [e, if_true]
    rw [show (34 :: ([] ++ 32 :: rest) : List UInt8) = 34 :: 32 :: rest from rfl, this]
    simp
theorem encW_head (w rest : List UInt8) : ∃ c r, encW w ++ 32 :: rest = c :: r ∧ ((c.toNat : Int) == 32) = false ∧ ((c.toNat : Int) == 35) = false := by
  unfold encW
  split
  · rename_i h
    simp only [Bool.and_eq_true, Bool.not_eq_true', beq_eq_false_iff_ne] at h
    match w, h with
    | c :: w, h =>
      refine ⟨c, w ++ 32 :: rest, rfl, ?_⟩
      have hc : bareB c = true := by have := h.2; simp only [List.all_cons, Bool.and_eq_true] at this; exact this.1
      simp only [bareB, Bool.and_eq_true, Bool.not_eq_true', decide_eq_true_eq] at hc
      exact ⟨by simp; omega, hc.1.2⟩
  · exact ⟨34, _, rfl, by decide, by decide⟩
/-- Words that were written with a space behind each are cut again. -/
theorem cutF_enc : ∀ (l ws : List (List UInt8)), (∀ w ∈ l, w.length ≤ 200) → ws.length + l.length ≤ 8 → cutF (l.flatMap fun w => encW w ++ [32]) ws = some (ws ++ l)
  | [], ws, _, _ => by rw [List.flatMap_nil, cutF.eq_def]; simp
  | w :: l, ws, h, hl => by
    simp only [List.length_cons] at hl
    have hw := wordAt_enc w (l.flatMap fun w => encW w ++ [32])
    obtain ⟨c, r, hc, h1, h2⟩ := encW_head w (l.flatMap fun w => encW w ++ [32])
    have e1 : (w :: l).flatMap (fun w => encW w ++ [32]) = c :: r := by rw [List.flatMap_cons, List.append_assoc]; exact hc
    have hr : (c :: r).drop (encW w).length = 32 :: (l.flatMap fun w => encW w ++ [32]) := by rw [← hc]; exact List.drop_left ..
    have hpos := (wordAt_ge hw).1
    have hr' : r.drop ((encW w).length - 1) = 32 :: (l.flatMap fun w => encW w ++ [32]) := by
      rw [← hr, show (encW w).length = ((encW w).length - 1) + 1 by omega, List.drop_succ_cons]
      rfl
    rw [hc] at hw
    rw [e1, cutF.eq_def]
    simp only [h1, h2, Bool.false_eq_true, if_false, hw, hr, hr']
    have e2 : (endB (32 :: (l.flatMap fun w => encW w ++ [32])) && decide (w.length ≤ 200) && decide (ws.length < 8)) = true := by
      have := h w (by simp)
      simp only [endB, Bool.and_eq_true, decide_eq_true_eq]
      exact ⟨⟨by decide, this⟩, by omega⟩
    rw [if_pos e2, cutF.eq_def]
    simp only [show (((32 : UInt8).toNat : Int) == 32) = true by decide, if_true]
    rw [cutF_enc l (ws ++ [w]) (fun x hx => h x (by simp [hx])) (by simp; omega)]
    simp
/-- Words that were cut are few and short. -/
theorem cutF_small : ∀ (m : Nat) (rest : List UInt8), rest.length ≤ m → ∀ {ws l : List (List UInt8)}, ws.length ≤ 8 → (∀ w ∈ ws, w.length ≤ 200) → cutF rest ws = some l → l.length ≤ 8 ∧ ∀ w ∈ l, w.length ≤ 200 := by
  intro m
  induction m with
  | zero =>
    intro rest hr ws l h8 hs h
    rw [List.eq_nil_of_length_eq_zero (Nat.le_zero.1 hr), cutF.eq_def] at h
    simp only [Option.some.injEq] at h
    subst h
    exact ⟨h8, hs⟩
  | succ m ih =>
    intro rest hr ws l h8 hs h
    match rest with
    | [] =>
      rw [cutF.eq_def] at h
      simp only [Option.some.injEq] at h
      subst h
      exact ⟨h8, hs⟩
    | c :: r =>
      simp only [List.length_cons] at hr
      rw [cutF.eq_def] at h
      simp only at h
      split at h
      · exact ih r (by omega) h8 hs h
      · split at h
        · simp only [Option.some.injEq] at h
          subst h
          exact ⟨h8, hs⟩
        · split at h
          · cases h
          · rename_i w n hw
            split at h
            · rename_i hg
              simp only [Bool.and_eq_true, decide_eq_true_eq] at hg
              refine ih (r.drop (n - 1)) (by simp; omega) (by simp; omega) (fun x hx => ?_) h
              rcases List.mem_append.1 hx with hx | hx
              · exact hs x hx
              · simp only [List.mem_singleton] at hx
                subst hx
                exact hg.1.2
            · cases h
end Go.Proofs.Ytkppdeobinefbaa.W
