/- The fields of an object. Conditions: none. -/
import Derived.Test.YtcjchimenfadkaaDoorTypesGateD
import Derived.Test.YtcjchimenfadkaaDoorGateNum
set_option linter.unusedSimpArgs false
set_option linter.unusedVariables false
set_option linter.defProp false
open Go Go.Ab
set_option maxHeartbeats 2000000
namespace Go.Proofs.YtcjchimenfadkaaDoor.W

def findI {α : Type} (p : α → Bool) : List α → Nat → Int
  | [], _ => -1
  | x :: l, k => if p x = true then k else findI p l (k + 1)
theorem find_i {α : Type} (p : α → Bool) : ∀ (l : List α) (k : Nat), (findI p l k = -1 ∧ l.find? p = none) ∨ ∃ i x, l[i]? = some x ∧ findI p l k = ((k + i : Nat) : Int) ∧ l.find? p = some x
  | [], k => .inl ⟨rfl, rfl⟩
  | x :: l, k => by
    by_cases h : p x = true
    · exact .inr ⟨0, x, rfl, by simp [findI, h], by simp [h]⟩
    · rcases find_i p l (k + 1) with ⟨h1, h2⟩ | ⟨i, u, h1, h2, h3⟩
      · exact .inl ⟨by simp [findI, h, h1], by simp [h, h2]⟩
      · exact .inr ⟨i + 1, u, by simpa using h1, by simp only [findI, h, h2]; simp; omega, by simp [h, h3]⟩
def isK (k : List UInt8) (s : GateShape) : Bool := s.Kind == k
def fieldsR (l : List GateShape) (o : GateObject) : Option (List GateField) := match l.find? (isK o.Kind) with
  | some s => if s.Fields.length = o.Values.length then some s.Fields else none
  | none => none
def fldV (z : V) : Option (List GateField) → V
  | some fs => .t (tGateFieldS fs)
  | none => z
theorem fields_two (l : List GateShape) (o : GateObject) : (findI (isK o.Kind) l 0 = -1 ∧ fieldsR l o = none) ∨ ∃ (i : Nat) (s : GateShape), l[i]? = some s ∧ findI (isK o.Kind) l 0 = (i : Nat) ∧ ((s.Fields.length ≠ o.Values.length ∧ fieldsR l o = none) ∨ (s.Fields.length = o.Values.length ∧ fieldsR l o = some s.Fields)) := by
  rcases find_i (isK o.Kind) l 0 with ⟨h1, h2⟩ | ⟨i, x, h1, h2, h3⟩
  · exact .inl ⟨h1, by rw [fieldsR, h2]⟩
  · refine .inr ⟨i, x, h1, by rw [h2, Nat.zero_add], ?_⟩
    by_cases hl : x.Fields.length = o.Values.length
    · exact .inr ⟨hl, by rw [fieldsR, h3]; simp only [if_pos hl]⟩
    · exact .inl ⟨hl, by rw [fieldsR, h3]; simp only [if_neg hl]⟩
theorem fields_ok {l : List GateShape} {o : GateObject} {fs : List GateField} (h : fieldsR l o = some fs) (hl : GateShape.OkS l) : GateField.OkS fs ∧ fs.length = o.Values.length := by
  unfold fieldsR at h
  split at h
  · rename_i s hs
    split at h
    · rename_i he
      obtain rfl := Option.some.inj h
      exact ⟨(hl.2 s (List.mem_of_find?_eq_some hs)).Fields, he⟩
    · cases h
  · cases h

def c_spec_l1Shape : C := (.seq (.ops [⟨(some 4), none, (.mv (.c (.t (.int .i64 0))))⟩]) (.seq (.seq (.ops [⟨(some 5), none, (.mv (.c (.t (.int .i64 0))))⟩]) (.block 0 (.loop (.seq (.seq (.ops [⟨(some 6), none, (.mv (.t 5))⟩, ⟨(some 7), none, (.mv (.t 0))⟩, ⟨(some 8), none, (.len false (.t 7))⟩, ⟨(some 9), none, (.bin .lss (.t 6) (.t 8))⟩]) (.cond (.t 9) .skip (.exit 0))) (.seq (.block 1 (.seq (.ops [⟨(some 12), none, (.mv (.t 0))⟩, ⟨(some 13), none, (.mv (.t 5))⟩, ⟨(some 14), none, (.indexAddr 2 (.t 12) (.t 13))⟩, ⟨(some 15), none, (.fieldAddr 0 (.t 14))⟩, ⟨(some 16), none, (.load none (.t 15))⟩, ⟨(some 17), none, (.mv (.t 1))⟩, ⟨(some 18), none, (.bin .eql (.t 16) (.t 17))⟩]) (.cond (.t 18) (.seq (.ops [⟨(some 19), none, (.mv (.t 5))⟩, ⟨(some 4), none, (.mv (.t 19))⟩]) .ret) .skip))) (.ops [⟨(some 10), none, (.mv (.t 5))⟩, ⟨(some 11), none, (.bin .add (.t 10) (.c (.t (.int .i64 1))))⟩, ⟨(some 5), none, (.mv (.t 11))⟩])))))) (.seq (.ops [⟨(some 4), none, (.mv (.c (.t (.int .i64 (-1)))))⟩]) .ret)))
theorem k_spec_l1Shape : comp Tryd.prog 20 (Tryd.f91.body.getD .skip) = some c_spec_l1Shape := by kernel_rfl

theorem spec_l1Shape (l : List GateShape) (hl : l.length ≤ 1048576) (name : List UInt8)  (σ : Store) : ACalls Tryd.prog 91 [.t (tGateShapeS l), .t (.str (name))] σ fun rr σ' => rr = .t (.int .i64 (findI (isK name) l 0)) ∧ σ' = σ := by
  refine acalls_of Tryd.func91 (by decide +kernel) (code := Tryd.f91.body.getD .skip) (n := 20) (c := c_spec_l1Shape) (rs := [(.tmp 4)]) rfl rfl k_spec_l1Shape (by kernel_rfl) (by simp) (fun hσ => ?_)
  have hh : True := trivial
  have fin : ∀ {u : V} {τ : Store}, u = .t (.int .i64 (findI (isK name) l 0)) → u.lt σ.length = true → retV σ.length (fun rr σ' => rr = .t (.int .i64 (findI (isK name) l 0)) ∧ σ' = σ) (σ ++ τ) (some [u]) := fun h h2 => ret_same rfl hσ h2 ⟨h, rfl⟩
  have fin0 : ∀ {u : V}, u = .t (.int .i64 (findI (isK name) l 0)) → retV σ.length (fun rr σ' => rr = .t (.int .i64 (findI (isK name) l 0)) ∧ σ' = σ) σ (some [u]) := fun h => ret_same0 rfl ⟨h, rfl⟩
  simp -implicitDefEqProofs only [c_spec_l1Shape, tGateShapeS, List.length_map, S0, S1, S2, S3, S4, S5, S6, S7, S8, S9, S10, S11, S12, S13, S14, S15, S16, S17, opv, opvs, eget, env0, setD, lenStr, lenSl, isNilP, isNilS, putAt, if_true, if_false, reduceCtorEq, Nat.reduceLeDiff, Nat.reduceEqDiff, Nat.reduceSub, Nat.reduceMul, Nat.reduceAdd]
  refine loop_p [5, 0, 1] [0, 1] (fun k : Nat => [(5, .t (.int .i64 (k : Nat)))]) (fun k => k ≤ l.length ∧ findI (isK name) (l.drop k) k = findI (isK name) l 0) (fun k => l.length - k) 0 (by simp) ⟨Nat.zero_le _, rfl⟩ rfl ?_
  rintro k ⟨hk, hall⟩
  simp -implicitDefEqProofs only [keep, List.length_map, S0, S1, S2, S3, S4, S5, S6, S7, S8, S9, S10, S11, S12, S13, S14, S15, S16, S17, opv, opvs, eget, env0, setD, lenStr, lenSl, isNilP, isNilS, putAt, if_true, if_false, reduceCtorEq, Nat.reduceLeDiff, Nat.reduceEqDiff, Nat.reduceSub, Nat.reduceMul, Nat.reduceAdd]
  refine cond_split (fun h1 => ?_) (fun h1 => ?_)
  · obtain ⟨x, hx, hlt⟩ := at_of h1
    have hd := drop_of hx
    have more := i64_succ (show k < 4611686018427387904 by omega)
    rw [hd] at hall
    simp -implicitDefEqProofs only [hx, nat_nn, Nat.zero_le, List.getElem?_map, Option.map_some, List.length_map, GateShape.ts, more, S0, S1, S2, S3, S4, S5, S6, S7, S8, S9, S10, S11, S12, S13, S14, S15, S16, S17, opv, opvs, eget, env0, setD, lenStr, lenSl, isNilP, isNilS, putAt, if_true, if_false, reduceCtorEq, Nat.reduceLeDiff, Nat.reduceEqDiff, Nat.reduceSub, Nat.reduceMul, Nat.reduceAdd]
    refine cond_split (fun g1 => ?_) (fun g1 => ?_)
    · have hb : isK name x = true := g1
      simp -implicitDefEqProofs only [hx, nat_nn, Nat.zero_le, List.getElem?_map, Option.map_some, List.length_map, GateShape.ts, more, S0, S1, S2, S3, S4, S5, S6, S7, S8, S9, S10, S11, S12, S13, S14, S15, S16, S17, opv, opvs, eget, env0, setD, lenStr, lenSl, isNilP, isNilS, putAt, if_true, if_false, reduceCtorEq, Nat.reduceLeDiff, Nat.reduceEqDiff, Nat.reduceSub, Nat.reduceMul, Nat.reduceAdd]
      rw [findI, if_pos hb] at hall
      first | exact fin0 (by rw [← hall]; try rfl) | exact fin (by rw [← hall]; try rfl) (by rfl)
    · have hb : isK name x = false := g1
      rw [findI, if_neg (by rw [hb]; simp)] at hall
      simp -implicitDefEqProofs only [more, S0, S1, S2, S3, S4, S5, S6, S7, S8, S9, S10, S11, S12, S13, S14, S15, S16, S17, opv, opvs, eget, env0, setD, lenStr, lenSl, isNilP, isNilS, putAt, if_true, if_false, reduceCtorEq, Nat.reduceLeDiff, Nat.reduceEqDiff, Nat.reduceSub, Nat.reduceMul, Nat.reduceAdd]
      first | exact lk_p0 (k + 1) (by simp) (by simp) (by omega) ⟨by omega, hall⟩ rfl | exact lk_p (k + 1) (by simp) (by simp) hσ rfl (by omega) ⟨by omega, hall⟩ (by simp [ltE, keep, eget, V.lt]) rfl | exact lk_pm (k + 1) (Nat.le_refl _) (by simp) hσ rfl rfl (by omega) ⟨by omega, hall⟩ (by simp [ltE, keep, eget, V.lt]) rfl
  · have hkk := end_of h1 hk
    rw [hkk, List.drop_length] at hall
    simp -implicitDefEqProofs only [S0, S1, S2, S3, S4, S5, S6, S7, S8, S9, S10, S11, S12, S13, S14, S15, S16, S17, opv, opvs, eget, env0, setD, lenStr, lenSl, isNilP, isNilS, putAt, if_true, if_false, reduceCtorEq, Nat.reduceLeDiff, Nat.reduceEqDiff, Nat.reduceSub, Nat.reduceMul, Nat.reduceAdd]
    first | exact fin0 (by rw [← hall]; try rfl) | exact fin (by rw [← hall]; try rfl) rfl

def c_impl_shapeOf : C := (.seq (.ops [⟨(some 4), none, (.mv (.c (.t (.int .i64 0))))⟩]) (.seq (.seq (.ops [⟨(some 7), none, (.mv (.t 0))⟩, ⟨(some 8), none, (.len false (.t 7))⟩, ⟨(some 9), none, (.mv (.c (.t (.int .i64 0))))⟩]) (.block 0 (.loop (.seq (.ops [⟨(some 10), none, (.bin .lss (.t 9) (.t 8))⟩]) (.seq (.cond (.t 10) .skip (.exit 0)) (.seq (.block 1 (.seq (.ops [⟨(some 11), none, (.mv (.t 9))⟩, ⟨(some 12), none, (.indexAddr 2 (.t 7) (.t 9))⟩, ⟨(some 13), none, (.load (some 2) (.t 12))⟩, ⟨(some 6), none, (.new [(.t (.str [])), .nils])⟩, ⟨(some 5), none, (.mv (.t 11))⟩, ⟨none, none, (.store 2 (.t 6) (.t 13))⟩]) (.seq (.ops [⟨(some 14), none, (.fieldAddr 0 (.t 6))⟩, ⟨(some 15), none, (.load none (.t 14))⟩, ⟨(some 16), none, (.mv (.t 1))⟩, ⟨(some 17), none, (.bin .eql (.t 15) (.t 16))⟩]) (.cond (.t 17) (.seq (.ops [⟨(some 18), none, (.mv (.t 5))⟩, ⟨(some 4), none, (.mv (.t 18))⟩]) .ret) .skip)))) (.ops [⟨(some 19), none, (.bin .add (.t 9) (.c (.t (.int .i64 1))))⟩, ⟨(some 9), none, (.mv (.t 19))⟩]))))))) (.seq (.ops [⟨(some 4), none, (.mv (.c (.t (.int .i64 (-1)))))⟩]) .ret)))
theorem k_impl_shapeOf : comp Tryd.prog 20 (Tryd.f92.body.getD .skip) = some c_impl_shapeOf := by kernel_rfl

theorem impl_shapeOf (l : List GateShape) (hl : l.length ≤ 1048576) (name : List UInt8)  (σ : Store) : ACalls Tryd.prog 92 [.t (tGateShapeS l), .t (.str (name))] σ fun rr σ' => rr = .t (.int .i64 (findI (isK name) l 0)) ∧ σ' = σ := by
  refine acalls_of Tryd.func92 (by decide +kernel) (code := Tryd.f92.body.getD .skip) (n := 20) (c := c_impl_shapeOf) (rs := [(.tmp 4)]) rfl rfl k_impl_shapeOf (by kernel_rfl) (by simp) (fun hσ => ?_)
  have hh : True := trivial
  have fin : ∀ {u : V} {τ : Store}, u = .t (.int .i64 (findI (isK name) l 0)) → u.lt σ.length = true → retV σ.length (fun rr σ' => rr = .t (.int .i64 (findI (isK name) l 0)) ∧ σ' = σ) (σ ++ τ) (some [u]) := fun h h2 => ret_same rfl hσ h2 ⟨h, rfl⟩
  have fin0 : ∀ {u : V}, u = .t (.int .i64 (findI (isK name) l 0)) → retV σ.length (fun rr σ' => rr = .t (.int .i64 (findI (isK name) l 0)) ∧ σ' = σ) σ (some [u]) := fun h => ret_same0 rfl ⟨h, rfl⟩
  simp -implicitDefEqProofs only [c_impl_shapeOf, tGateShapeS, List.length_map, S0, S1, S2, S3, S4, S5, S6, S7, S8, S9, S10, S11, S12, S13, S14, S15, S16, S17, opv, opvs, eget, env0, setD, lenStr, lenSl, isNilP, isNilS, putAt, if_true, if_false, reduceCtorEq, Nat.reduceLeDiff, Nat.reduceEqDiff, Nat.reduceSub, Nat.reduceMul, Nat.reduceAdd]
  refine loop_p [9, 1, 7, 8] [1, 7, 8] (fun k : Nat => [(9, .t (.int .i64 (k : Nat)))]) (fun k => k ≤ l.length ∧ findI (isK name) (l.drop k) k = findI (isK name) l 0) (fun k => l.length - k) 0 (by simp) ⟨Nat.zero_le _, rfl⟩ rfl ?_
  rintro k ⟨hk, hall⟩
  simp -implicitDefEqProofs only [keep, List.length_map, S0, S1, S2, S3, S4, S5, S6, S7, S8, S9, S10, S11, S12, S13, S14, S15, S16, S17, opv, opvs, eget, env0, setD, lenStr, lenSl, isNilP, isNilS, putAt, if_true, if_false, reduceCtorEq, Nat.reduceLeDiff, Nat.reduceEqDiff, Nat.reduceSub, Nat.reduceMul, Nat.reduceAdd]
  refine cond_split (fun h1 => ?_) (fun h1 => ?_)
  · obtain ⟨x, hx, hlt⟩ := at_of h1
    have hd := drop_of hx
    have more := i64_succ (show k < 4611686018427387904 by omega)
    rw [hd] at hall
    simp -implicitDefEqProofs only [hx, nat_nn, Nat.zero_le, List.getElem?_map, Option.map_some, List.length_map, GateShape.ts, more, S0, S1, S2, S3, S4, S5, S6, S7, S8, S9, S10, S11, S12, S13, S14, S15, S16, S17, opv, opvs, eget, env0, setD, lenStr, lenSl, isNilP, isNilS, putAt, if_true, if_false, reduceCtorEq, Nat.reduceLeDiff, Nat.reduceEqDiff, Nat.reduceSub, Nat.reduceMul, Nat.reduceAdd]
    refine cond_split (fun g1 => ?_) (fun g1 => ?_)
    · have hb : isK name x = true := g1
      simp -implicitDefEqProofs only [hx, nat_nn, Nat.zero_le, List.getElem?_map, Option.map_some, List.length_map, GateShape.ts, more, S0, S1, S2, S3, S4, S5, S6, S7, S8, S9, S10, S11, S12, S13, S14, S15, S16, S17, opv, opvs, eget, env0, setD, lenStr, lenSl, isNilP, isNilS, putAt, if_true, if_false, reduceCtorEq, Nat.reduceLeDiff, Nat.reduceEqDiff, Nat.reduceSub, Nat.reduceMul, Nat.reduceAdd]
      rw [findI, if_pos hb] at hall
      first | exact fin0 (by rw [← hall]; try rfl) | exact fin (by rw [← hall]; try rfl) (by rfl)
    · have hb : isK name x = false := g1
      rw [findI, if_neg (by rw [hb]; simp)] at hall
      simp -implicitDefEqProofs only [more, S0, S1, S2, S3, S4, S5, S6, S7, S8, S9, S10, S11, S12, S13, S14, S15, S16, S17, opv, opvs, eget, env0, setD, lenStr, lenSl, isNilP, isNilS, putAt, if_true, if_false, reduceCtorEq, Nat.reduceLeDiff, Nat.reduceEqDiff, Nat.reduceSub, Nat.reduceMul, Nat.reduceAdd]
      first | exact lk_p0 (k + 1) (by simp) (by simp) (by omega) ⟨by omega, hall⟩ rfl | exact lk_p (k + 1) (by simp) (by simp) hσ rfl (by omega) ⟨by omega, hall⟩ (by simp [ltE, keep, eget, V.lt]) rfl | exact lk_pm (k + 1) (Nat.le_refl _) (by simp) hσ rfl rfl (by omega) ⟨by omega, hall⟩ (by simp [ltE, keep, eget, V.lt]) rfl
  · have hkk := end_of h1 hk
    rw [hkk, List.drop_length] at hall
    simp -implicitDefEqProofs only [S0, S1, S2, S3, S4, S5, S6, S7, S8, S9, S10, S11, S12, S13, S14, S15, S16, S17, opv, opvs, eget, env0, setD, lenStr, lenSl, isNilP, isNilS, putAt, if_true, if_false, reduceCtorEq, Nat.reduceLeDiff, Nat.reduceEqDiff, Nat.reduceSub, Nat.reduceMul, Nat.reduceAdd]
    first | exact fin0 (by rw [← hall]; try rfl) | exact fin (by rw [← hall]; try rfl) rfl

def c_spec_l2Fields : C := (.seq (.ops [⟨(some 3), none, (.box (.t 1))⟩, ⟨(some 4), none, (.mv (.c .nils))⟩, ⟨(some 5), none, (.mv (.c (.t (.bool false))))⟩]) (.seq (.ops [⟨(some 7), none, (.mv (.t 0))⟩, ⟨(some 8), none, (.fieldAddr 0 (.t 3))⟩, ⟨(some 9), none, (.load none (.t 8))⟩, ⟨(some 10), none, (.call (.c (.fn (.func 91) [])) [(.t 7), (.t 9)])⟩, ⟨(some 6), none, (.mv (.t 10))⟩]) (.seq (.seq (.drawn [(.mk 0 false ⟨(some 11), none, (.mv (.t 6))⟩ []), (.mk 1 false ⟨(some 12), none, (.bin .lss (.t 11) (.c (.t (.int .i64 0))))⟩ []), (.mk 2 false ⟨(some 13), none, (.mv (.t 12))⟩ []), (.mk 3 false ⟨(some 14), (some ⟨13, false⟩), (.mv (.t 0))⟩ []), (.mk 4 false ⟨(some 15), (some ⟨13, false⟩), (.mv (.t 6))⟩ []), (.mk 5 false ⟨(some 16), (some ⟨13, false⟩), (.indexAddr 2 (.t 14) (.t 15))⟩ []), (.mk 6 false ⟨(some 17), (some ⟨13, false⟩), (.fieldAddr 1 (.t 16))⟩ []), (.mk 7 false ⟨(some 18), (some ⟨13, false⟩), (.load none (.t 17))⟩ []), (.mk 8 false ⟨(some 19), (some ⟨13, false⟩), (.len false (.t 18))⟩ []), (.mk 9 false ⟨(some 20), (some ⟨13, false⟩), (.fieldAddr 3 (.t 3))⟩ []), (.mk 10 false ⟨(some 21), (some ⟨13, false⟩), (.load none (.t 20))⟩ []), (.mk 11 false ⟨(some 22), (some ⟨13, false⟩), (.len false (.t 21))⟩ []), (.mk 12 false ⟨(some 23), (some ⟨13, false⟩), (.bin .neq (.t 19) (.t 22))⟩ []), (.mk 13 false ⟨(some 24), none, (.pick (.t 13) (.c (.t (.bool true))) (.t 23))⟩ [])]) (.cond (.t 24) (.seq (.ops [⟨(some 25), none, (.lit none 11 0 [(.t (.str [])), (.t (.int .i64 0)), (.t (.int .i64 0)), (.t (.int .i64 0)), .nils, (.t (.str [])), (.t (.int .i64 0)), (.t (.bool false)), (.t (.bool false)), (.t (.str [])), (.t (.str []))] [])⟩, ⟨(some 4), none, (.mv (.t 25))⟩, ⟨(some 5), none, (.mv (.c (.t (.bool false))))⟩]) .ret) .skip)) (.seq (.ops [⟨(some 26), none, (.mv (.t 0))⟩, ⟨(some 27), none, (.mv (.t 6))⟩, ⟨(some 28), none, (.indexAddr 2 (.t 26) (.t 27))⟩, ⟨(some 29), none, (.fieldAddr 1 (.t 28))⟩, ⟨(some 30), none, (.load none (.t 29))⟩, ⟨(some 4), none, (.mv (.t 30))⟩, ⟨(some 5), none, (.mv (.c (.t (.bool true))))⟩]) .ret))))
theorem k_spec_l2Fields : comp Tryd.prog 31 (Tryd.f58.body.getD .skip) = some c_spec_l2Fields := by kernel_rfl

theorem spec_l2Fields (l : List GateShape) (hl : l.length ≤ 1048576) (o : GateObject)  (σ : Store) : ACalls Tryd.prog 58 [.t (tGateShapeS l), .agg (o.vs)] σ fun rr σ' => rr = .tup [fldV (.rows 11 []) (fieldsR l o), .t (.bool (fieldsR l o).isSome)] ∧ σ' = σ := by
  refine acalls_of Tryd.func58 (by decide +kernel) (code := Tryd.f58.body.getD .skip) (n := 31) (c := c_spec_l2Fields) (rs := [(.tmp 4), (.tmp 5)]) rfl rfl k_spec_l2Fields (by kernel_rfl) (by simp) (fun hσ => ?_)
  have hh : True := trivial
  have fin : ∀ {a b : V} {τ : Store}, V.tup [a, b] = .tup [fldV (.rows 11 []) (fieldsR l o), .t (.bool (fieldsR l o).isSome)] → (V.tup [a, b]).lt σ.length = true → retV σ.length (fun rr σ' => rr = .tup [fldV (.rows 11 []) (fieldsR l o), .t (.bool (fieldsR l o).isSome)] ∧ σ' = σ) (σ ++ τ) (some [a, b]) := fun h h2 => ret_same rfl hσ h2 ⟨h, rfl⟩
  have fin0 : ∀ {a b : V}, V.tup [a, b] = .tup [fldV (.rows 11 []) (fieldsR l o), .t (.bool (fieldsR l o).isSome)] → retV σ.length (fun rr σ' => rr = .tup [fldV (.rows 11 []) (fieldsR l o), .t (.bool (fieldsR l o).isSome)] ∧ σ' = σ) σ (some [a, b]) := fun h => ret_same0 rfl ⟨h, rfl⟩
  simp -implicitDefEqProofs only [c_spec_l2Fields, nat_nn, Nat.zero_le, List.getElem?_map, Option.map_some, List.length_map, GateShape.ts, GateShape.vs, GateObject.vs, S0, S1, S2, S3, S4, S5, S6, S7, S8, S9, S10, S11, S12, S13, S14, S15, S16, S17, opv, opvs, eget, env0, setD, lenStr, lenSl, isNilP, isNilS, putAt, if_true, if_false, reduceCtorEq, Nat.reduceLeDiff, Nat.reduceEqDiff, Nat.reduceSub, Nat.reduceMul, Nat.reduceAdd]
  refine call_pure (spec_l1Shape l hl o.Kind _) ?_
  rcases fields_two l o with ⟨h1, h2⟩ | ⟨i, s, hg, h1, ⟨h2, h3⟩ | ⟨h2, h3⟩⟩
  · have d1 : decide ((-1 : Int) < 0) = true := rfl
    rw [h1]
    simp -implicitDefEqProofs only [d1, cond_t, cond_f, nat_nn, Nat.zero_le, List.getElem?_map, Option.map_some, List.length_map, GateShape.ts, GateShape.vs, GateObject.vs, S0, S1, S2, S3, S4, S5, S6, S7, S8, S9, S10, S11, S12, S13, S14, S15, S16, S17, opv, opvs, eget, env0, setD, lenStr, lenSl, isNilP, isNilS, putAt, if_true, if_false, reduceCtorEq, Nat.reduceLeDiff, Nat.reduceEqDiff, Nat.reduceSub, Nat.reduceMul, Nat.reduceAdd]
    try (refine lit_rows ?_; simp -implicitDefEqProofs only [nat_nn, Nat.zero_le, List.getElem?_map, Option.map_some, List.length_map, GateShape.ts, GateShape.vs, GateObject.vs, S0, S1, S2, S3, S4, S5, S6, S7, S8, S9, S10, S11, S12, S13, S14, S15, S16, S17, opv, opvs, eget, env0, setD, lenStr, lenSl, isNilP, isNilS, putAt, if_true, if_false, reduceCtorEq, Nat.reduceLeDiff, Nat.reduceEqDiff, Nat.reduceSub, Nat.reduceMul, Nat.reduceAdd])
    first | exact fin0 (by rw [h2]; rfl) | exact fin (by rw [h2]; rfl) rfl
  · have d1 : decide (((i : Nat) : Int) < 0) = false := by simp
    have b1 : (((o.Values.length : Nat) : Int) == ((s.Fields.length : Nat) : Int)) = false := by simp; omega
    have b2 : (((s.Fields.length : Nat) : Int) == ((o.Values.length : Nat) : Int)) = false := by simp; omega
    have b3 : (((s.Fields.length : Nat) : Int) != ((o.Values.length : Nat) : Int)) = true := by rw [bne, b2]; rfl
    have b4 : (((o.Values.length : Nat) : Int) != ((s.Fields.length : Nat) : Int)) = true := by rw [bne, b1]; rfl
    rw [h1]
    simp -implicitDefEqProofs only [d1, b3, b4, cond_t, cond_f, tGateShapeS, hg, nat_nn, Nat.zero_le, List.getElem?_map, Option.map_some, List.length_map, GateShape.ts, GateShape.vs, GateObject.vs, S0, S1, S2, S3, S4, S5, S6, S7, S8, S9, S10, S11, S12, S13, S14, S15, S16, S17, opv, opvs, eget, env0, setD, lenStr, lenSl, isNilP, isNilS, putAt, if_true, if_false, reduceCtorEq, Nat.reduceLeDiff, Nat.reduceEqDiff, Nat.reduceSub, Nat.reduceMul, Nat.reduceAdd]
    try (refine lit_rows ?_; simp -implicitDefEqProofs only [nat_nn, Nat.zero_le, List.getElem?_map, Option.map_some, List.length_map, GateShape.ts, GateShape.vs, GateObject.vs, S0, S1, S2, S3, S4, S5, S6, S7, S8, S9, S10, S11, S12, S13, S14, S15, S16, S17, opv, opvs, eget, env0, setD, lenStr, lenSl, isNilP, isNilS, putAt, if_true, if_false, reduceCtorEq, Nat.reduceLeDiff, Nat.reduceEqDiff, Nat.reduceSub, Nat.reduceMul, Nat.reduceAdd])
    first | exact fin0 (by rw [h3]; rfl) | exact fin (by rw [h3]; rfl) rfl
  · have d1 : decide (((i : Nat) : Int) < 0) = false := by simp
    have b1 : (((o.Values.length : Nat) : Int) == ((s.Fields.length : Nat) : Int)) = true := by simp; omega
    have b2 : (((s.Fields.length : Nat) : Int) == ((o.Values.length : Nat) : Int)) = true := by simp; omega
    have b3 : (((s.Fields.length : Nat) : Int) != ((o.Values.length : Nat) : Int)) = false := by rw [bne, b2]; rfl
    have b4 : (((o.Values.length : Nat) : Int) != ((s.Fields.length : Nat) : Int)) = false := by rw [bne, b1]; rfl
    rw [h1]
    simp -implicitDefEqProofs only [d1, b3, b4, cond_t, cond_f, tGateShapeS, hg, nat_nn, Nat.zero_le, List.getElem?_map, Option.map_some, List.length_map, GateShape.ts, GateShape.vs, GateObject.vs, S0, S1, S2, S3, S4, S5, S6, S7, S8, S9, S10, S11, S12, S13, S14, S15, S16, S17, opv, opvs, eget, env0, setD, lenStr, lenSl, isNilP, isNilS, putAt, if_true, if_false, reduceCtorEq, Nat.reduceLeDiff, Nat.reduceEqDiff, Nat.reduceSub, Nat.reduceMul, Nat.reduceAdd]
    first | exact fin0 (by rw [h3]; rfl) | exact fin (by rw [h3]; rfl) rfl

def c_impl_fieldsOf : C := (.seq (.ops [⟨(some 3), none, (.box (.t 1))⟩, ⟨(some 4), none, (.mv (.c .nils))⟩, ⟨(some 5), none, (.mv (.c (.t (.bool false))))⟩]) (.seq (.ops [⟨(some 7), none, (.mv (.t 0))⟩, ⟨(some 8), none, (.fieldAddr 0 (.t 3))⟩, ⟨(some 9), none, (.load none (.t 8))⟩, ⟨(some 10), none, (.call (.c (.fn (.func 92) [])) [(.t 7), (.t 9)])⟩, ⟨(some 6), none, (.mv (.t 10))⟩]) (.seq (.seq (.drawn [(.mk 0 false ⟨(some 11), none, (.mv (.t 6))⟩ []), (.mk 1 false ⟨(some 12), none, (.bin .lss (.t 11) (.c (.t (.int .i64 0))))⟩ []), (.mk 2 false ⟨(some 13), none, (.mv (.t 12))⟩ []), (.mk 3 false ⟨(some 14), (some ⟨13, false⟩), (.fieldAddr 3 (.t 3))⟩ []), (.mk 4 false ⟨(some 15), (some ⟨13, false⟩), (.load none (.t 14))⟩ []), (.mk 5 false ⟨(some 16), (some ⟨13, false⟩), (.len false (.t 15))⟩ []), (.mk 6 false ⟨(some 17), (some ⟨13, false⟩), (.mv (.t 0))⟩ []), (.mk 7 false ⟨(some 18), (some ⟨13, false⟩), (.mv (.t 6))⟩ []), (.mk 8 false ⟨(some 19), (some ⟨13, false⟩), (.indexAddr 2 (.t 17) (.t 18))⟩ []), (.mk 9 false ⟨(some 20), (some ⟨13, false⟩), (.fieldAddr 1 (.t 19))⟩ []), (.mk 10 false ⟨(some 21), (some ⟨13, false⟩), (.load none (.t 20))⟩ []), (.mk 11 false ⟨(some 22), (some ⟨13, false⟩), (.len false (.t 21))⟩ []), (.mk 12 false ⟨(some 23), (some ⟨13, false⟩), (.bin .neq (.t 16) (.t 22))⟩ []), (.mk 13 false ⟨(some 24), none, (.pick (.t 13) (.c (.t (.bool true))) (.t 23))⟩ [])]) (.cond (.t 24) (.seq (.ops [⟨(some 4), none, (.mv (.c .nils))⟩, ⟨(some 5), none, (.mv (.c (.t (.bool false))))⟩]) .ret) .skip)) (.seq (.ops [⟨(some 25), none, (.mv (.t 0))⟩, ⟨(some 26), none, (.mv (.t 6))⟩, ⟨(some 27), none, (.indexAddr 2 (.t 25) (.t 26))⟩, ⟨(some 28), none, (.fieldAddr 1 (.t 27))⟩, ⟨(some 29), none, (.load none (.t 28))⟩, ⟨(some 4), none, (.mv (.t 29))⟩, ⟨(some 5), none, (.mv (.c (.t (.bool true))))⟩]) .ret))))
theorem k_impl_fieldsOf : comp Tryd.prog 30 (Tryd.f59.body.getD .skip) = some c_impl_fieldsOf := by kernel_rfl

theorem impl_fieldsOf (l : List GateShape) (hl : l.length ≤ 1048576) (o : GateObject)  (σ : Store) : ACalls Tryd.prog 59 [.t (tGateShapeS l), .agg (o.vs)] σ fun rr σ' => rr = .tup [fldV (.nils) (fieldsR l o), .t (.bool (fieldsR l o).isSome)] ∧ σ' = σ := by
  refine acalls_of Tryd.func59 (by decide +kernel) (code := Tryd.f59.body.getD .skip) (n := 30) (c := c_impl_fieldsOf) (rs := [(.tmp 4), (.tmp 5)]) rfl rfl k_impl_fieldsOf (by kernel_rfl) (by simp) (fun hσ => ?_)
  have hh : True := trivial
  have fin : ∀ {a b : V} {τ : Store}, V.tup [a, b] = .tup [fldV (.nils) (fieldsR l o), .t (.bool (fieldsR l o).isSome)] → (V.tup [a, b]).lt σ.length = true → retV σ.length (fun rr σ' => rr = .tup [fldV (.nils) (fieldsR l o), .t (.bool (fieldsR l o).isSome)] ∧ σ' = σ) (σ ++ τ) (some [a, b]) := fun h h2 => ret_same rfl hσ h2 ⟨h, rfl⟩
  have fin0 : ∀ {a b : V}, V.tup [a, b] = .tup [fldV (.nils) (fieldsR l o), .t (.bool (fieldsR l o).isSome)] → retV σ.length (fun rr σ' => rr = .tup [fldV (.nils) (fieldsR l o), .t (.bool (fieldsR l o).isSome)] ∧ σ' = σ) σ (some [a, b]) := fun h => ret_same0 rfl ⟨h, rfl⟩
  simp -implicitDefEqProofs only [c_impl_fieldsOf, nat_nn, Nat.zero_le, List.getElem?_map, Option.map_some, List.length_map, GateShape.ts, GateShape.vs, GateObject.vs, S0, S1, S2, S3, S4, S5, S6, S7, S8, S9, S10, S11, S12, S13, S14, S15, S16, S17, opv, opvs, eget, env0, setD, lenStr, lenSl, isNilP, isNilS, putAt, if_true, if_false, reduceCtorEq, Nat.reduceLeDiff, Nat.reduceEqDiff, Nat.reduceSub, Nat.reduceMul, Nat.reduceAdd]
  refine call_pure (impl_shapeOf l hl o.Kind _) ?_
  rcases fields_two l o with ⟨h1, h2⟩ | ⟨i, s, hg, h1, ⟨h2, h3⟩ | ⟨h2, h3⟩⟩
  · have d1 : decide ((-1 : Int) < 0) = true := rfl
    rw [h1]
    simp -implicitDefEqProofs only [d1, cond_t, cond_f, nat_nn, Nat.zero_le, List.getElem?_map, Option.map_some, List.length_map, GateShape.ts, GateShape.vs, GateObject.vs, S0, S1, S2, S3, S4, S5, S6, S7, S8, S9, S10, S11, S12, S13, S14, S15, S16, S17, opv, opvs, eget, env0, setD, lenStr, lenSl, isNilP, isNilS, putAt, if_true, if_false, reduceCtorEq, Nat.reduceLeDiff, Nat.reduceEqDiff, Nat.reduceSub, Nat.reduceMul, Nat.reduceAdd]
    try (refine lit_rows ?_; simp -implicitDefEqProofs only [nat_nn, Nat.zero_le, List.getElem?_map, Option.map_some, List.length_map, GateShape.ts, GateShape.vs, GateObject.vs, S0, S1, S2, S3, S4, S5, S6, S7, S8, S9, S10, S11, S12, S13, S14, S15, S16, S17, opv, opvs, eget, env0, setD, lenStr, lenSl, isNilP, isNilS, putAt, if_true, if_false, reduceCtorEq, Nat.reduceLeDiff, Nat.reduceEqDiff, Nat.reduceSub, Nat.reduceMul, Nat.reduceAdd])
    first | exact fin0 (by rw [h2]; rfl) | exact fin (by rw [h2]; rfl) rfl
  · have d1 : decide (((i : Nat) : Int) < 0) = false := by simp
    have b1 : (((o.Values.length : Nat) : Int) == ((s.Fields.length : Nat) : Int)) = false := by simp; omega
    have b2 : (((s.Fields.length : Nat) : Int) == ((o.Values.length : Nat) : Int)) = false := by simp; omega
    have b3 : (((s.Fields.length : Nat) : Int) != ((o.Values.length : Nat) : Int)) = true := by rw [bne, b2]; rfl
    have b4 : (((o.Values.length : Nat) : Int) != ((s.Fields.length : Nat) : Int)) = true := by rw [bne, b1]; rfl
    rw [h1]
    simp -implicitDefEqProofs only [d1, b3, b4, cond_t, cond_f, tGateShapeS, hg, nat_nn, Nat.zero_le, List.getElem?_map, Option.map_some, List.length_map, GateShape.ts, GateShape.vs, GateObject.vs, S0, S1, S2, S3, S4, S5, S6, S7, S8, S9, S10, S11, S12, S13, S14, S15, S16, S17, opv, opvs, eget, env0, setD, lenStr, lenSl, isNilP, isNilS, putAt, if_true, if_false, reduceCtorEq, Nat.reduceLeDiff, Nat.reduceEqDiff, Nat.reduceSub, Nat.reduceMul, Nat.reduceAdd]
    try (refine lit_rows ?_; simp -implicitDefEqProofs only [nat_nn, Nat.zero_le, List.getElem?_map, Option.map_some, List.length_map, GateShape.ts, GateShape.vs, GateObject.vs, S0, S1, S2, S3, S4, S5, S6, S7, S8, S9, S10, S11, S12, S13, S14, S15, S16, S17, opv, opvs, eget, env0, setD, lenStr, lenSl, isNilP, isNilS, putAt, if_true, if_false, reduceCtorEq, Nat.reduceLeDiff, Nat.reduceEqDiff, Nat.reduceSub, Nat.reduceMul, Nat.reduceAdd])
    first | exact fin0 (by rw [h3]; rfl) | exact fin (by rw [h3]; rfl) rfl
  · have d1 : decide (((i : Nat) : Int) < 0) = false := by simp
    have b1 : (((o.Values.length : Nat) : Int) == ((s.Fields.length : Nat) : Int)) = true := by simp; omega
    have b2 : (((s.Fields.length : Nat) : Int) == ((o.Values.length : Nat) : Int)) = true := by simp; omega
    have b3 : (((s.Fields.length : Nat) : Int) != ((o.Values.length : Nat) : Int)) = false := by rw [bne, b2]; rfl
    have b4 : (((o.Values.length : Nat) : Int) != ((s.Fields.length : Nat) : Int)) = false := by rw [bne, b1]; rfl
    rw [h1]
    simp -implicitDefEqProofs only [d1, b3, b4, cond_t, cond_f, tGateShapeS, hg, nat_nn, Nat.zero_le, List.getElem?_map, Option.map_some, List.length_map, GateShape.ts, GateShape.vs, GateObject.vs, S0, S1, S2, S3, S4, S5, S6, S7, S8, S9, S10, S11, S12, S13, S14, S15, S16, S17, opv, opvs, eget, env0, setD, lenStr, lenSl, isNilP, isNilS, putAt, if_true, if_false, reduceCtorEq, Nat.reduceLeDiff, Nat.reduceEqDiff, Nat.reduceSub, Nat.reduceMul, Nat.reduceAdd]
    first | exact fin0 (by rw [h3]; rfl) | exact fin (by rw [h3]; rfl) rfl

end Go.Proofs.YtcjchimenfadkaaDoor.W
