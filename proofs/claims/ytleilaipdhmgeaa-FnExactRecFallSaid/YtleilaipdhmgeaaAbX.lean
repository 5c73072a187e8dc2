/- How far marks count. Conditions: none (a library of lemmas). -/
import Derived.Test.YtleilaipdhmgeaaAbW
set_option linter.unusedSimpArgs false
set_option linter.unusedVariables false
set_option linter.defProp false
namespace Go.Ab
section
variable {mt : Nat → List UInt8}
mutual
/-- No row has more than 256 cells. -/
def Sh.nar : Sh → Bool
  | .sl _ cs => decide (cs.length ≤ 256) && Sh.nars cs
  | _ => true
def Sh.nars : List Sh → Bool
  | [] => true
  | c :: cs => c.nar && Sh.nars cs
end
mutual
theorem mk_ub : ∀ {t : T} {c : Sh} {k : Nat}, c.nar = true → T.is c t → (T.mk mt k t).2 ≤ k + 1 + 256 * t.size
  | .int _ _, _, k, _, _ => by rw [mkc_int]; simp only; omega
  | .bool _, _, k, _, _ => by rw [mkc_bool]; simp only; omega
  | .str _, _, k, _, _ => by rw [mkc_str]; simp only; omega
  | .lst n rows, c, k, hc, ht => by
    rw [mkc_lst, size_lst]
    simp only
    cases c with
    | sl m cs =>
      simp only [T.is] at ht
      obtain ⟨rows', he, hl, hr⟩ := ht
      cases he
      simp only [Sh.nar, Bool.and_eq_true, decide_eq_true_eq] at hc
      have := mkR_ub (rows := rows) (k := k) hc.2 hc.1 hr
      omega
    | int _ => simp only [T.is] at ht; obtain ⟨_, he, _⟩ := ht; cases he
    | bool => simp only [T.is] at ht; obtain ⟨_, he⟩ := ht; cases he
    | str => simp only [T.is] at ht; obtain ⟨_, he, _⟩ := ht; cases he
theorem mkR_ub : ∀ {rows : List (List T)} {cs : List Sh} {k : Nat}, Sh.nars cs = true → cs.length ≤ 256 → (∀ r ∈ rows, T.isL cs r) → (T.mkR mt k rows).2 ≤ k + 256 * (rows.length + T.sizeR rows)
  | [], _, k, _, _, _ => by rw [mkR_nil]; simp
  | r :: rows, cs, k, hc, hl, hr => by
    rw [mkR_cons, sizeR_cons]
    simp only [List.length_cons]
    have h1 := mkL_ub (ts := r) (k := k) hc (hr r (by simp))
    have h2 := mkR_ub (rows := rows) (k := (T.mkL mt k r).2) hc hl fun r' h => hr r' (by simp [h])
    have h3 := T.isL_len (hr r (by simp))
    omega
theorem mkL_ub : ∀ {ts : List T} {cs : List Sh} {k : Nat}, Sh.nars cs = true → T.isL cs ts → (T.mkL mt k ts).2 ≤ k + ts.length + 256 * T.sizeL ts
  | [], _, k, _, _ => by rw [mkL_nil]; simp
  | t :: ts, cs, k, hc, ht => by
    cases cs with
    | nil => simp only [T.isL] at ht; cases ht
    | cons c cs =>
      simp only [T.isL] at ht
      obtain ⟨t', ts', he, h1, h2⟩ := ht
      cases he
      simp only [Sh.nars, Bool.and_eq_true] at hc
      rw [mkL_cons, sizeL_cons]
      simp only [List.length_cons]
      have g1 := mk_ub (t := t) (k := k) hc.1 h1
      have g2 := mkL_ub (ts := ts) (k := (T.mk mt k t).2) hc.2 h2
      omega
end
theorem mkVL_ub : ∀ {ts : List T} {cs : List Sh} {k : Nat}, Sh.nars cs = true → T.isL cs ts → (T.mkVL mt k ts).2 ≤ k + ts.length + 256 * T.sizeL ts
  | [], _, k, _, _ => by rw [mkVL_nil]; simp
  | t :: ts, cs, k, hc, ht => by
    cases cs with
    | nil => simp only [T.isL] at ht; cases ht
    | cons c cs =>
      simp only [T.isL] at ht
      obtain ⟨t', ts', he, h1, h2⟩ := ht
      cases he
      simp only [Sh.nars, Bool.and_eq_true] at hc
      rw [mkVL_cons, sizeL_cons]
      simp only [List.length_cons]
      have g1 : (T.mkV mt k t).2 ≤ k + 1 + 256 * t.size := by
        cases t with
        | lst n rows => simp only [T.mkV]; exact mk_ub hc.1 h1
        | int _ _ => simp only [T.mkV]; omega
        | bool _ => simp only [T.mkV]; omega
        | str _ => simp only [T.mkV]; omega
      have g2 := mkVL_ub (ts := ts) (k := (T.mkV mt k t).2) hc.2 h2
      omega
end
end Go.Ab
