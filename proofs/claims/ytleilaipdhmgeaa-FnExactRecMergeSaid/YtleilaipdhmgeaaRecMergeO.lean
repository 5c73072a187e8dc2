/- RecMerge: what the law asks of its two functions and of their result. Conditions: none. -/
import Derived.Test.YtleilaipdhmgeaaRecSlots
import Derived.Test.YtleilaipdhmgeaaMarkRec
set_option linter.unusedSimpArgs false
set_option linter.unusedVariables false
set_option linter.defProp false
open Go Go.Ab
namespace Go.Proofs.Ytleilaipdhmgeaa.W
def resT_RecMerge (a b : List RecSlot) : T := tRecSlotS (mfold a 0 b)
theorem specF_RecMerge (a : List RecSlot) (oa : RecSlot.OkS a) (b : List RecSlot) (ob : RecSlot.OkS b) (σ : Store) : ACalls Try.prog 22 [.t (tRecSlotS a), .t (tRecSlotS b)] σ fun r σ' => r = .t (resT_RecMerge a b) ∧ σ' = σ :=
  acalls_frz1 ((spec_RecMerge a b oa.1 ob.1 σ).mono fun r σ' h => h.sees (by omega))
theorem implO_RecMerge (a : List RecSlot) (oa : RecSlot.OkS a) (b : List RecSlot) (ob : RecSlot.OkS b) (σ : Store) : ACalls Try.prog 24 [.t (tRecSlotS a), .t (tRecSlotS b)] σ (ToR (resT_RecMerge a b) σ) :=
  (impl_RecMerge a b oa.1 ob.1 σ).mono fun r σ' h => h.toR (by omega) (slot_flat _)
theorem mstep_mem {m : List RecSlot} {i : Nat} {y z : RecSlot} (h : z ∈ mstep m i y) : z ∈ m ∨ z = y := by
  unfold mstep at h
  split at h
  · split at h
    · rcases List.mem_or_eq_of_mem_set h with h | h
      · exact .inl h
      · exact .inr h
    · exact .inl h
  · simpa using h
theorem mfold_mem : ∀ (b m : List RecSlot) (i : Nat) {z : RecSlot}, z ∈ mfold m i b → z ∈ m ∨ z ∈ b
  | [], m, i, z, h => .inl h
  | y :: b, m, i, z, h => by
    rcases mfold_mem b _ _ h with h | h
    · rcases mstep_mem h with h | h
      · exact .inl h
      · exact .inr (by simp [h])
    · exact .inr (by simp [h])
theorem mfold_len : ∀ (b m : List RecSlot) (i : Nat), (mfold m i b).length ≤ m.length + b.length
  | [], m, i => by simp [mfold]
  | y :: b, m, i => by
    have h := mfold_len b (mstep m i y) (i + 1)
    have h2 : (mstep m i y).length ≤ m.length + 1 := by
      unfold mstep
      split
      · split <;> simp
      · simp
    simp only [mfold, List.length_cons]
    omega
theorem size_set {l : List RecSlot} {i : Nat} {y : RecSlot} : T.sizeR ((l.set i y).map RecSlot.ts) ≤ T.sizeR (l.map RecSlot.ts) + T.sizeL y.ts := by
  induction l generalizing i with
  | nil => simp [sizeR_nil]
  | cons x l ih =>
    cases i with
    | zero => simp only [List.set_cons_zero, List.map_cons, sizeR_cons]; omega
    | succ i => simp only [List.set_cons_succ, List.map_cons, sizeR_cons]; have := ih (i := i); omega
theorem mstep_size {m : List RecSlot} {i : Nat} {y : RecSlot} : T.sizeR ((mstep m i y).map RecSlot.ts) ≤ T.sizeR (m.map RecSlot.ts) + T.sizeL y.ts := by
  unfold mstep
  split
  · split
    · exact size_set
    · omega
  · rw [List.map_append, sizeR_app]
    simp only [List.map_cons, List.map_nil, sizeR_cons, sizeR_nil]
    omega
theorem mfold_size : ∀ (b m : List RecSlot) (i : Nat), T.sizeR ((mfold m i b).map RecSlot.ts) ≤ T.sizeR (m.map RecSlot.ts) + T.sizeR (b.map RecSlot.ts)
  | [], m, i => by simp [mfold, sizeR_nil]
  | y :: b, m, i => by
    have h := mfold_size b (mstep m i y) (i + 1)
    have h2 := mstep_size (m := m) (i := i) (y := y)
    simp only [mfold, List.map_cons, sizeR_cons]
    omega
theorem res_RecMerge (a : List RecSlot) (ha : T.is (.sl 2 shRecSlot) (tRecSlotS a)) (za : (tRecSlotS a).size ≤ 1048576) (_ : RecSlot.OkS a) (b : List RecSlot) (hb : T.is (.sl 2 shRecSlot) (tRecSlotS b)) (zb : (tRecSlotS b).size ≤ 1048576) (_ : RecSlot.OkS b) : T.is (.sl 2 shRecSlot) (resT_RecMerge a b) ∧ (resT_RecMerge a b).size ≤ 8388608 := by
  rw [tRecSlotS, size_lst, List.length_map] at za zb
  simp only [tRecSlotS, T.is] at ha hb
  obtain ⟨ra, ea, la, ha⟩ := ha
  obtain ⟨rb, eb, lb, hb⟩ := hb
  cases ea
  cases eb
  have hlen := mfold_len b a 0
  have hsz := mfold_size b a 0
  refine ⟨?_, ?_⟩
  · simp only [resT_RecMerge, tRecSlotS, T.is]
    refine ⟨_, rfl, by rw [List.length_map]; simp only [maxLen]; omega, fun r hr => ?_⟩
    obtain ⟨x, hx, rfl⟩ := List.mem_map.1 hr
    rcases mfold_mem b a 0 hx with h | h
    · exact ha _ (List.mem_map_of_mem h)
    · exact hb _ (List.mem_map_of_mem h)
  · rw [resT_RecMerge, tRecSlotS, size_lst, List.length_map]
    omega
end Go.Proofs.Ytleilaipdhmgeaa.W
