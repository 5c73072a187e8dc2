/- Copies of rows that hold no slices. Conditions: none (a library of lemmas). -/
import Derived.Test.YtleilaipdhmgeaaAbX
set_option linter.unusedSimpArgs false
set_option linter.unusedVariables false
set_option linter.defProp false
namespace Go.Ab
theorem ownL_flat {σ : Store} : ∀ (r : List T), (∀ t ∈ r, scalar t = true) → OwnL σ r (r.map .t) []
  | [], _ => by simp only [List.map_nil]; exact .nil0
  | t :: r, h => by
    have h1 := h t (by simp)
    have h2 := ownL_flat (σ := σ) r fun t ht => h t (by simp [ht])
    cases t with
    | lst _ _ => simp [scalar] at h1
    | int _ _ => exact .int h2
    | bool _ => exact .bool h2
    | str _ => exact .str h2
theorem ownR_flat {σ : Store} : ∀ (rows : List (List T)), (∀ r ∈ rows, ∀ t ∈ r, scalar t = true) → OwnR σ rows (rows.map fun r => r.map .t) []
  | [], _ => by simp [OwnR]
  | r :: rows, h => by
    simp only [List.map_cons]
    exact OwnR.cons (i := []) (j := []) (ownL_flat r (h r (by simp))) (ownR_flat rows fun r' hr => h r' (by simp [hr]))
/-- A list of flat rows, copied into an object. -/
theorem own_rows {σ : Store} {id n : Nat} {rows : List (List T)} (hp : 0 < n) (h : ∀ r ∈ rows, ∀ t ∈ r, scalar t = true) (hs : σ[id]? = some (.slc n (rows.map fun r => r.map .t))) : Own σ (.lst n rows) (.sl id rows.length 0 rows.length) [id] := by
  simp only [Own]
  exact ⟨hp, .inr ⟨id, [], _, rfl, by simp, hs, ownR_flat rows h⟩⟩
theorem own_empty {σ : Store} {n : Nat} (hp : 0 < n) : Own σ (.lst n []) .nils [] := by simp [Own, hp]
theorem cons_at {σ τ τ' : Store} {o o' : Go.Ab.Obj} {i : Nat} (h1 : σ.length < i) (h2 : i < (σ ++ o :: τ).length) : (σ ++ o' :: (τ ++ τ'))[i]? = (σ ++ o :: τ)[i]? := by
  simp only [List.length_append, List.length_cons] at h2
  rw [List.getElem?_append_right (by omega), List.getElem?_append_right (by omega)]
  obtain ⟨d, hd⟩ : ∃ d, i - σ.length = d + 1 := ⟨i - σ.length - 1, by omega⟩
  rw [hd, List.getElem?_cons_succ, List.getElem?_cons_succ, List.getElem?_append_left (by omega)]
/-- A row made anew is put behind the others. -/
theorem own_grow {σ τ τ' : Store} {o o' : Go.Ab.Obj} {rows : List (List T)} {k : Nat} {r : List T} {R : List (List V)} {us : List V} {is js : List Nat} (hx : rows[k]? = some r) (ho : OwnR (σ ++ o :: τ) (rows.take k) R is) (hw : Wi is (σ.length + 1) (σ ++ o :: τ).length)
    (hu : OwnL (σ ++ o :: (τ ++ τ')) r us js) (hv : Wi js (σ ++ o :: τ).length (σ ++ o :: (τ ++ τ')).length) : OwnR (σ ++ o' :: (τ ++ τ')) (rows.take (k + 1)) (R ++ [us]) (is ++ js) ∧ Wi (is ++ js) (σ.length + 1) (σ ++ o' :: (τ ++ τ')).length := by
  constructor
  · rw [take_of hx]
    refine OwnR.app (ho.frame fun i hi => cons_at (by have := hw.2 i hi; omega) (hw.2 i hi).2) (OwnR.one (hu.frame fun i hi => ?_))
    have := hv.2 i hi
    have h2 := cons_at (σ := σ) (τ := τ ++ τ') (τ' := []) (o := o) (o' := o') (i := i) (by simp only [List.length_append, List.length_cons] at this; omega) this.2
    rwa [List.append_nil] at h2
  · simp only [List.length_append, List.length_cons] at hw hv ⊢
    exact (Wi.app hw hv (by omega) (by omega) (by omega)).mono (Nat.le_refl _) (by omega)
theorem cons_at2 {A τ τ' : Store} {o o' : Go.Ab.Obj} {i : Nat} (h1 : i ≠ A.length) (h2 : i < (A ++ o :: τ).length) : (A ++ o' :: (τ ++ τ'))[i]? = (A ++ o :: τ)[i]? := by
  rcases Nat.lt_or_ge i A.length with h | h
  · rw [List.getElem?_append_left h, List.getElem?_append_left h]
  · exact cons_at (by omega) h2
/-- The same where the object came after some of the rows' own. -/
def Wj (is : List Nat) (a id b : Nat) : Prop := is.Nodup ∧ ∀ i ∈ is, a ≤ i ∧ i < b ∧ i ≠ id
theorem own_grow2 {a : Nat} {A τ τ' : Store} {o o' : Go.Ab.Obj} {rows : List (List T)} {k : Nat} {r : List T} {R : List (List V)} {us : List V} {is js : List Nat} (ha : a ≤ A.length) (hx : rows[k]? = some r) (ho : OwnR (A ++ o :: τ) (rows.take k) R is) (hw : Wj is a A.length (A ++ o :: τ).length)
    (hu : OwnL (A ++ o :: (τ ++ τ')) r us js) (hv : Wi js (A ++ o :: τ).length (A ++ o :: (τ ++ τ')).length) : OwnR (A ++ o' :: (τ ++ τ')) (rows.take (k + 1)) (R ++ [us]) (is ++ js) ∧ Wj (is ++ js) a A.length (A ++ o' :: (τ ++ τ')).length := by
  constructor
  · rw [take_of hx]
    refine OwnR.app (ho.frame fun i hi => cons_at2 (hw.2 i hi).2.2 (hw.2 i hi).2.1) (OwnR.one (hu.frame fun i hi => ?_))
    have := hv.2 i hi
    have h2 := cons_at2 (A := A) (τ := τ ++ τ') (τ' := []) (o := o) (o' := o') (i := i) (by simp only [List.length_append, List.length_cons] at this; omega) this.2
    rwa [List.append_nil] at h2
  · simp only [List.length_append, List.length_cons] at hw hv ⊢
    refine ⟨List.nodup_append.2 ⟨hw.1, hv.1, fun x hx y hy he => ?_⟩, fun x hx => ?_⟩
    · have := hw.2 x hx; have := hv.2 y hy; omega
    · rcases List.mem_append.1 hx with hx | hx
      · have := hw.2 x hx; omega
      · have := hv.2 x hx; omega
theorem Wj.cons {is : List Nat} {a id b : Nat} (h : Wj is a id b) (h1 : a ≤ id) (h2 : id < b) : Wi (id :: is) a b := by
  refine ⟨List.nodup_cons.2 ⟨fun hm => (h.2 id hm).2.2 rfl, h.1⟩, fun i hi => ?_⟩
  rcases List.mem_cons.1 hi with rfl | hi
  · exact ⟨h1, h2⟩
  · exact ⟨(h.2 i hi).1, (h.2 i hi).2.1⟩
end Go.Ab
