/- The fields of an object. Conditions: none. -/
import Derived.Test.YtcjchimenfadkaaTypesGateM
import Derived.Test.YtcjchimenfadkaaGateNum
set_option linter.unusedSimpArgs false
set_option linter.unusedVariables false
set_option linter.defProp false
open Go Go.Ab
set_option maxHeartbeats 2000000
namespace Go.Proofs.Ytcjchimenfadkaa.W

def findI {α : Type} (p : α → Bool) : List α → Nat → Int
  | [], _ => -1
  | x :: l, k => if p x = true then k else findI p l (k + 1)
theorem find_i {α : Type} (p : α → Bool) : ∀ (l : List α) (k : Nat), (findI p l k = -1 ∧ l.find? p = none) ∨ ∃ i x, l[i]? = some x ∧ findI p l k = ((k + i : Nat) : Int) ∧ l.find? p = some x
  | [], k => .inl ⟨rfl, rfl⟩
  | x :: l, k => by
    by_cases h : p x = true
    · exact .inr ⟨0, x, rfl, by simp [findI, h], by simp [h]⟩
    · rcases find_i p l (k + 1) with ⟨h1, h2⟩ | ⟨i, u, h1, h2, h3⟩
      · exact .inl ⟨by simp [findI, h, h1], by simp [h, h2]⟩
      · exact .inr ⟨i + 1, u, by simpa using h1, by simp only [findI, h, h2]; simp; omega, by simp [h, h3]⟩
def isK (k : List UInt8) (s : GateShape) : Bool := s.Kind == k
def c_spec_l1Shape : C := (.seq (.ops [⟨(some 4), none, (.mv (.c (.t (.int .i64 0))))⟩]) (.seq (.seq (.ops [⟨(some 5), none, (.mv (.c (.t (.int .i64 0))))⟩]) (.block 0 (.loop (.seq (.seq (.ops [⟨(some 6), none, (.mv (.t 5))⟩, ⟨(some 7), none, (.mv (.t 0))⟩, ⟨(some 8), none, (.len false (.t 7))⟩, ⟨(some 9), none, (.bin .lss (.t 6) (.t 8))⟩]) (.cond (.t 9) .skip (.exit 0))) (.seq (.block 1 (.seq (.ops [⟨(some 12), none, (.mv (.t 0))⟩, ⟨(some 13), none, (.mv (.t 5))⟩, ⟨(some 14), none, (.indexAddr 2 (.t 12) (.t 13))⟩, ⟨(some 15), none, (.fieldAddr 0 (.t 14))⟩, ⟨(some 16), none, (.load none (.t 15))⟩, ⟨(some 17), none, (.mv (.t 1))⟩, ⟨(some 18), none, (.bin .eql (.t 16) (.t 17))⟩]) (.cond (.t 18) (.seq (.ops [⟨(some 19), none, (.mv (.t 5))⟩, ⟨(some 4), none, (.mv (.t 19))⟩]) .ret) .skip))) (.ops [⟨(some 10), none, (.mv (.t 5))⟩, ⟨(some 11), none, (.bin .add (.t 10) (.c (.t (.int .i64 1))))⟩, ⟨(some 5), none, (.mv (.t 11))⟩])))))) (.seq (.ops [⟨(some 4), none, (.mv (.c (.t (.int .i64 (-1)))))⟩]) .ret)))
theorem k_spec_l1Shape : comp Try.prog 20 (Try.f28.body.getD .skip) = some c_spec_l1Shape := by kernel_rfl

theorem spec_l1Shape (l : List GateShape) (hl : l.length ≤ 1048576) (name : List UInt8)  (σ : Store) : ACalls Try.prog 28 [.t (tGateShapeS l), .t (.str (name))] σ fun rr σ' => rr = .t (.int .i64 (findI (isK name) l 0)) ∧ σ' = σ := by
  refine acalls_of Try.func28 (by decide +kernel) (code := Try.f28.body.getD .skip) (n := 20) (c := c_spec_l1Shape) (rs := [(.tmp 4)]) rfl rfl k_spec_l1Shape (by kernel_rfl) (by simp) (fun hσ => ?_)
  have hh : True := trivial
  have fin : ∀ {u : V} {τ : Store}, u = .t (.int .i64 (findI (isK name) l 0)) → u.lt σ.length = true → retV σ.length (fun rr σ' => rr = .t (.int .i64 (findI (isK name) l 0)) ∧ σ' = σ) (σ ++ τ) (some [u]) := fun h h2 => ret_same rfl hσ h2 ⟨h, rfl⟩
  have fin0 : ∀ {u : V}, u = .t (.int .i64 (findI (isK name) l 0)) → retV σ.length (fun rr σ' => rr = .t (.int .i64 (findI (isK name) l 0)) ∧ σ' = σ) σ (some [u]) := fun h => ret_same0 rfl ⟨h, rfl⟩
  simp -implicitDefEqProofs only [c_spec_l1Shape, tGateShapeS, List.length_map, S0, S1, S2, S3, S4, S5, S6, S7, S8, S9, S10, S11, S12, S13, S14, S15, S16, S17, opv, opvs, eget, env0, setD, lenStr, lenSl, isNilP, isNilS, putAt, if_true, if_false, reduceCtorEq, Nat.reduceLeDiff, Nat.reduceEqDiff, Nat.reduceSub, Nat.reduceMul, Nat.reduceAdd]
  refine loop_p [5, 0, 1] [0, 1] (fun k : Nat => [(5, .t (.int .i64 (k : Nat)))]) (fun k => k ≤ l.length ∧ findI (isK name) (l.drop k) k = findI (isK name) l 0) (fun k => l.length - k) 0 (by simp) ⟨Nat.zero_le _, rfl⟩ rfl ?_
  rintro k ⟨hk, hall⟩
  simp -implicitDefEqProofs only [keep, List.length_map, S0, S1, S2, S3, S4, S5, S6, S7, S8, S9, S10, S11, S12, S13, S14, S15, S16, S17, opv, opvs, eget, env0, setD, lenStr, lenSl, isNilP, isNilS, putAt, if_true, if_false, reduceCtorEq, Nat.reduceLeDiff, Nat.reduceEqDiff, Nat.reduceSub, Nat.reduceMul, Nat.reduceAdd]
  refine cond_split (fun h1 => ?_) (fun h1 => ?_)
  · obtain ⟨x, hx, hlt⟩ := at_of h1
    have hd := drop_of hx
    have more := i64_succ (show k < 4611686018427387904 by omega)
    rw [hd] at hall
    simp -implicitDefEqProofs only [hx, nat_nn, Nat.zero_le, List.getElem?_map, Option.map_some, List.length_map, GateShape.ts, more, S0, S1, S2, S3, S4, S5, S6, S7, S8, S9, S10, S11, S12, S13, S14, S15, S16, S17, opv, opvs, eget, env0, setD, lenStr, lenSl, isNilP, isNilS, putAt, if_true, if_false, reduceCtorEq, Nat.reduceLeDiff, Nat.reduceEqDiff, Nat.reduceSub, Nat.reduceMul, Nat.reduceAdd]
    refine cond_split (fun g1 => ?_) (fun g1 => ?_)
    · have hb : isK name x = true := g1
      simp -implicitDefEqProofs only [hx, nat_nn, Nat.zero_le, List.getElem?_map, Option.map_some, List.length_map, GateShape.ts, more, S0, S1, S2, S3, S4, S5, S6, S7, S8, S9, S10, S11, S12, S13, S14, S15, S16, S17, opv, opvs, eget, env0, setD, lenStr, lenSl, isNilP, isNilS, putAt, if_true, if_false, reduceCtorEq, Nat.reduceLeDiff, Nat.reduceEqDiff, Nat.reduceSub, Nat.reduceMul, Nat.reduceAdd]
      rw [findI, if_pos hb] at hall
      first | exact fin0 (by rw [← hall]; try rfl) | exact fin (by rw [← hall]; try rfl) (by rfl)
    · have hb : isK name x = false := g1
      rw [findI, if_neg (by rw [hb]; simp)] at hall
      simp -implicitDefEqProofs only [more, S0, S1, S2, S3, S4, S5, S6, S7, S8, S9, S10, S11, S12, S13, S14, S15, S16, S17, opv, opvs, eget, env0, setD, lenStr, lenSl, isNilP, isNilS, putAt, if_true, if_false, reduceCtorEq, Nat.reduceLeDiff, Nat.reduceEqDiff, Nat.reduceSub, Nat.reduceMul, Nat.reduceAdd]
      first | exact lk_p0 (k + 1) (by simp) (by simp) (by omega) ⟨by omega, hall⟩ rfl | exact lk_p (k + 1) (by simp) (by simp) hσ rfl (by omega) ⟨by omega, hall⟩ (by simp [ltE, keep, eget, V.lt]) rfl | exact lk_pm (k + 1) (Nat.le_refl _) (by simp) hσ rfl rfl (by omega) ⟨by omega, hall⟩ (by simp [ltE, keep, eget, V.lt]) rfl
  · have hkk := end_of h1 hk
    rw [hkk, List.drop_length] at hall
    simp -implicitDefEqProofs only [S0, S1, S2, S3, S4, S5, S6, S7, S8, S9, S10, S11, S12, S13, S14, S15, S16, S17, opv, opvs, eget, env0, setD, lenStr, lenSl, isNilP, isNilS, putAt, if_true, if_false, reduceCtorEq, Nat.reduceLeDiff, Nat.reduceEqDiff, Nat.reduceSub, Nat.reduceMul, Nat.reduceAdd]
    first | exact fin0 (by rw [← hall]; try rfl) | exact fin (by rw [← hall]; try rfl) rfl

def c_impl_shapeOf : C := (.seq (.ops [⟨(some 4), none, (.mv (.c (.t (.int .i64 0))))⟩]) (.seq (.seq (.ops [⟨(some 7), none, (.mv (.t 0))⟩, ⟨(some 8), none, (.len false (.t 7))⟩, ⟨(some 9), none, (.mv (.c (.t (.int .i64 0))))⟩]) (.block 0 (.loop (.seq (.ops [⟨(some 10), none, (.bin .lss (.t 9) (.t 8))⟩]) (.seq (.cond (.t 10) .skip (.exit 0)) (.seq (.block 1 (.seq (.ops [⟨(some 11), none, (.mv (.t 9))⟩, ⟨(some 12), none, (.indexAddr 2 (.t 7) (.t 9))⟩, ⟨(some 13), none, (.load (some 2) (.t 12))⟩, ⟨(some 6), none, (.new [(.t (.str [])), .nils])⟩, ⟨(some 5), none, (.mv (.t 11))⟩, ⟨none, none, (.store 2 (.t 6) (.t 13))⟩]) (.seq (.ops [⟨(some 14), none, (.fieldAddr 0 (.t 6))⟩, ⟨(some 15), none, (.load none (.t 14))⟩, ⟨(some 16), none, (.mv (.t 1))⟩, ⟨(some 17), none, (.bin .eql (.t 15) (.t 16))⟩]) (.cond (.t 17) (.seq (.ops [⟨(some 18), none, (.mv (.t 5))⟩, ⟨(some 4), none, (.mv (.t 18))⟩]) .ret) .skip)))) (.ops [⟨(some 19), none, (.bin .add (.t 9) (.c (.t (.int .i64 1))))⟩, ⟨(some 9), none, (.mv (.t 19))⟩]))))))) (.seq (.ops [⟨(some 4), none, (.mv (.c (.t (.int .i64 (-1)))))⟩]) .ret)))
theorem k_impl_shapeOf : comp Try.prog 20 (Try.f20.body.getD .skip) = some c_impl_shapeOf := by kernel_rfl

theorem impl_shapeOf (l : List GateShape) (hl : l.length ≤ 1048576) (name : List UInt8)  (σ : Store) : ACalls Try.prog 20 [.t (tGateShapeS l), .t (.str (name))] σ fun rr σ' => rr = .t (.int .i64 (findI (isK name) l 0)) ∧ σ' = σ := by
  refine acalls_of Try.func20 (by decide +kernel) (code := Try.f20.body.getD .skip) (n := 20) (c := c_impl_shapeOf) (rs := [(.tmp 4)]) rfl rfl k_impl_shapeOf (by kernel_rfl) (by simp) (fun hσ => ?_)
  have hh : True := trivial
  have fin : ∀ {u : V} {τ : Store}, u = .t (.int .i64 (findI (isK name) l 0)) → u.lt σ.length = true → retV σ.length (fun rr σ' => rr = .t (.int .i64 (findI (isK name) l 0)) ∧ σ' = σ) (σ ++ τ) (some [u]) := fun h h2 => ret_same rfl hσ h2 ⟨h, rfl⟩
  have fin0 : ∀ {u : V}, u = .t (.int .i64 (findI (isK name) l 0)) → retV σ.length (fun rr σ' => rr = .t (.int .i64 (findI (isK name) l 0)) ∧ σ' = σ) σ (some [u]) := fun h => ret_same0 rfl ⟨h, rfl⟩
  simp -implicitDefEqProofs only [c_impl_shapeOf, tGateShapeS, List.length_map, S0, S1, S2, S3, S4, S5, S6, S7, S8, S9, S10, S11, S12, S13, S14, S15, S16, S17, opv, opvs, eget, env0, setD, lenStr, lenSl, isNilP, isNilS, putAt, if_true, if_false, reduceCtorEq, Nat.reduceLeDiff, Nat.reduceEqDiff, Nat.reduceSub, Nat.reduceMul, Nat.reduceAdd]
  refine loop_p [9, 1, 7, 8] [1, 7, 8] (fun k : Nat => [(9, .t (.int .i64 (k : Nat)))]) (fun k => k ≤ l.length ∧ findI (isK name) (l.drop k) k = findI (isK name) l 0) (fun k => l.length - k) 0 (by simp) ⟨Nat.zero_le _, rfl⟩ rfl ?_
  rintro k ⟨hk, hall⟩
  simp -implicitDefEqProofs only [keep, List.length_map, S0, S1, S2, S3, S4, S5, S6, S7, S8, S9, S10, S11, S12, S13, S14, S15, S16, S17, opv, opvs, eget, env0, setD, lenStr, lenSl, isNilP, isNilS, putAt, if_true, if_false, reduceCtorEq, Nat.reduceLeDiff, Nat.reduceEqDiff, Nat.reduceSub, Nat.reduceMul, Nat.reduceAdd]
  refine cond_split (fun h1 => ?_) (fun h1 => ?_)
  · obtain ⟨x, hx, hlt⟩ := at_of h1
    have hd := drop_of hx
    have more := i64_succ (show k < 4611686018427387904 by omega)
    rw [hd] at hall
    simp -implicitDefEqProofs only [hx, nat_nn, Nat.zero_le, List.getElem?_map, Option.map_some, List.length_map, GateShape.ts, more, S0, S1, S2, S3, S4, S5, S6, S7, S8, S9, S10, S11, S12, S13, S14, S15, S16, S17, opv, opvs, eget, env0, setD, lenStr, lenSl, isNilP, isNilS, putAt, if_true, if_false, reduceCtorEq, Nat.reduceLeDiff, Nat.reduceEqDiff, Nat.reduceSub, Nat.reduceMul, Nat.reduceAdd]
    refine cond_split (fun g1 => ?_) (fun g1 => ?_)
    · have hb : isK name x = true := g1
      simp -implicitDefEqProofs only [hx, nat_nn, Nat.zero_le, List.getElem?_map, Option.map_some, List.length_map, GateShape.ts, more, S0, S1, S2, S3, S4, S5, S6, S7, S8, S9, S10, S11, S12, S13, S14, S15, S16, S17, opv, opvs, eget, env0, setD, lenStr, lenSl, isNilP, isNilS, putAt, if_true, if_false, reduceCtorEq, Nat.reduceLeDiff, Nat.reduceEqDiff, Nat.reduceSub, Nat.reduceMul, Nat.reduceAdd]
      rw [findI, if_pos hb] at hall
      first | exact fin0 (by rw [← hall]; try rfl) | exact fin (by rw [← hall]; try rfl) (by rfl)
    · have hb : isK name x = false := g1
      rw [findI, if_neg (by rw [hb]; simp)] at hall
      simp -implicitDefEqProofs only [more, S0, S1, S2, S3, S4, S5, S6, S7, S8, S9, S10, S11, S12, S13, S14, S15, S16, S17, opv, opvs, eget, env0, setD, lenStr, lenSl, isNilP, isNilS, putAt, if_true, if_false, reduceCtorEq, Nat.reduceLeDiff, Nat.reduceEqDiff, Nat.reduceSub, Nat.reduceMul, Nat.reduceAdd]
      first | exact lk_p0 (k + 1) (by simp) (by simp) (by omega) ⟨by omega, hall⟩ rfl | exact lk_p (k + 1) (by simp) (by simp) hσ rfl (by omega) ⟨by omega, hall⟩ (by simp [ltE, keep, eget, V.lt]) rfl | exact lk_pm (k + 1) (Nat.le_refl _) (by simp) hσ rfl rfl (by omega) ⟨by omega, hall⟩ (by simp [ltE, keep, eget, V.lt]) rfl
  · have hkk := end_of h1 hk
    rw [hkk, List.drop_length] at hall
    simp -implicitDefEqProofs only [S0, S1, S2, S3, S4, S5, S6, S7, S8, S9, S10, S11, S12, S13, S14, S15, S16, S17, opv, opvs, eget, env0, setD, lenStr, lenSl, isNilP, isNilS, putAt, if_true, if_false, reduceCtorEq, Nat.reduceLeDiff, Nat.reduceEqDiff, Nat.reduceSub, Nat.reduceMul, Nat.reduceAdd]
    first | exact fin0 (by rw [← hall]; try rfl) | exact fin (by rw [← hall]; try rfl) rfl

end Go.Proofs.Ytcjchimenfadkaa.W
