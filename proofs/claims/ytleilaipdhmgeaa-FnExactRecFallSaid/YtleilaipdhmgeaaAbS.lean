/- Small rules for what laws.py prints. Conditions: none (a library of lemmas). -/
import Derived.Test.YtleilaipdhmgeaaAbR
set_option linter.unusedSimpArgs false
set_option linter.unusedVariables false
set_option linter.defProp false
namespace Go.Ab
theorem isL_cons {c : Sh} {cs : List Sh} {r : List T} : T.isL (c :: cs) r = ∃ t ts, r = t :: ts ∧ T.is c t ∧ T.isL cs ts := by simp only [T.isL]
theorem isL_nil {r : List T} : T.isL [] r = (r = []) := by simp only [T.isL]
theorem is_int {k : IntKind} {t : T} : T.is (.int k) t = ∃ n, t = .int k n ∧ (Lit.int k n).wf = true := by simp only [T.is]
theorem is_bool {t : T} : T.is .bool t = ∃ b, t = .bool b := by simp only [T.is]
theorem is_str {t : T} : T.is .str t = ∃ s, t = .str s ∧ s.length ≤ maxLen := by simp only [T.is]
theorem sc_str (t : T) (h : T.is .str t) : scalar t = true := by
  rw [is_str] at h; obtain ⟨s, rfl, _⟩ := h; rfl
theorem sc_int (t : T) (h : T.is (.int .i64) t) : scalar t = true := by
  rw [is_int] at h; obtain ⟨s, rfl, _⟩ := h; rfl
section
variable {σ : Store} {ts : List T} {us : List V} {is j : List Nat}
theorem OwnL.nil0 : OwnL σ [] [] [] := by simp only [OwnL, and_self]
theorem OwnL.int {k : IntKind} {n : Int} (h : OwnL σ ts us is) : OwnL σ (.int k n :: ts) (.t (.int k n) :: us) is := by
  simp only [OwnL, Own]; exact ⟨_, _, [], is, rfl, rfl, ⟨rfl, rfl⟩, h⟩
theorem OwnL.bool {n : Bool} (h : OwnL σ ts us is) : OwnL σ (.bool n :: ts) (.t (.bool n) :: us) is := by
  simp only [OwnL, Own]; exact ⟨_, _, [], is, rfl, rfl, ⟨rfl, rfl⟩, h⟩
theorem OwnL.str {n : List UInt8} (h : OwnL σ ts us is) : OwnL σ (.str n :: ts) (.t (.str n) :: us) is := by
  simp only [OwnL, Own]; exact ⟨_, _, [], is, rfl, rfl, ⟨rfl, rfl⟩, h⟩
theorem OwnL.lst {t : T} {u : V} (h : Own σ t u is) (k : OwnL σ ts us j) : OwnL σ (t :: ts) (u :: us) (is ++ j) := by
  simp only [OwnL]; exact ⟨_, _, is, j, rfl, rfl, h, k⟩
end
theorem pre_at {σ A A' B B' G F : Store} {i a b : Nat} (hG : G = σ ++ (A ++ B)) (hF : F = σ ++ (A' ++ B')) (hl : A'.length = A.length) (hp : B <+: B') (h : a ≤ i ∧ i < b) (ha : σ.length + A.length ≤ a) (hb : b ≤ G.length) : F[i]? = G[i]? := by
  subst hG hF
  obtain ⟨C, rfl⟩ := hp
  have hb' : b ≤ σ.length + (A.length + B.length) := by simpa using hb
  have e1 : (σ ++ (A' ++ (B ++ C)))[i]? = (B ++ C)[i - σ.length - A'.length]? := by rw [List.getElem?_append_right (by omega), List.getElem?_append_right (by omega)]
  have e2 : (σ ++ (A ++ B))[i]? = B[i - σ.length - A.length]? := by rw [List.getElem?_append_right (by omega), List.getElem?_append_right (by omega)]
  rw [e1, e2, hl, List.getElem?_append_left (by omega)]
theorem own_pre {σ A A' B B' G F : Store} {t : T} {u : V} {is : List Nat} {a : Nat} (h : Own G t u is) (w : Wi is a G.length) (hG : G = σ ++ (A ++ B)) (hF : F = σ ++ (A' ++ B')) (hl : A'.length = A.length) (hp : B <+: B') (ha : σ.length + A.length ≤ a) : Own F t u is :=
  h.frame fun i hi => pre_at hG hF hl hp (w.2 i hi) ha (Nat.le_refl _)
theorem ownL_pre {σ A A' B B' G F : Store} {t : List T} {u : List V} {is : List Nat} {a : Nat} (h : OwnL G t u is) (w : Wi is a G.length) (hG : G = σ ++ (A ++ B)) (hF : F = σ ++ (A' ++ B')) (hl : A'.length = A.length) (hp : B <+: B') (ha : σ.length + A.length ≤ a) : OwnL F t u is :=
  h.frame fun i hi => pre_at hG hF hl hp (w.2 i hi) ha (Nat.le_refl _)
theorem wi_last {is : List Nat} {a b a' b' : Nat} (h : Wi is a b) (h1 : a' ≤ a) (h2 : b ≤ b') : Wi (is ++ []) a' b' := by
  rw [List.append_nil]; exact h.mono h1 h2
theorem wi_more {i j : List Nat} {a b a' c : Nat} (h : Wi i a b) (k : Wi j b c) (h1 : a' ≤ a) (h2 : a ≤ b ∧ b ≤ c) : Wi (i ++ j) a' c := (Wi.app h k (Nat.le_refl _) h2.1 h2.2).mono h1 (Nat.le_refl _)
theorem Own.cells {σ : Store} {t : T} {v : V} {is : List Nat} (h : Own σ t v is) : cellsOf v = some [v] := by
  have := h.one
  cases v <;> simp_all [Go.Ab.one, cellsOf]
theorem one_cells {v : V} (h : one v = true) : cellsOf v = some [v] := by
  cases v <;> simp_all [Go.Ab.one, cellsOf]
theorem list1 {l : List V} (h : l.length = 1) : ∃ a, l = [a] := by
  match l, h with
  | [a], _ => exact ⟨a, rfl⟩
theorem list2 {l : List V} (h : l.length = 2) : ∃ a b, l = [a, b] := by
  match l, h with
  | [a, b], _ => exact ⟨a, b, rfl⟩
theorem list3 {l : List V} (h : l.length = 3) : ∃ a b c, l = [a, b, c] := by
  match l, h with
  | [a, b, c], _ => exact ⟨a, b, c, rfl⟩
theorem list4 {l : List V} (h : l.length = 4) : ∃ a b c d, l = [a, b, c, d] := by
  match l, h with
  | [a, b, c, d], _ => exact ⟨a, b, c, d, rfl⟩
end Go.Ab
