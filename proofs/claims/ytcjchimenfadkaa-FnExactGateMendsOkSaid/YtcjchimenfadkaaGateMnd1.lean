/- Fields by their names. Conditions: none. -/
import Derived.Test.YtcjchimenfadkaaGateShapesMOk
import Derived.Test.YtcjchimenfadkaaGateFieldsM
set_option linter.unusedSimpArgs false
set_option linter.unusedVariables false
set_option linter.defProp false
open Go Go.Ab
set_option maxHeartbeats 2000000
namespace Go.Proofs.Ytcjchimenfadkaa.W
def isF (n : List UInt8) (f : GateField) : Bool := f.Name == n
def plainG (fs : List GateField) (n : List UInt8) : Bool := match fs.find? (isF n) with
  | some f => !(f.Kind == 4)
  | none => false
def putG (fs : List GateField) (m : GateMend) : Bool := match fs.find? (isF m.Field) with
  | some f => fitsG f m.Put
  | none => false
def mendB (fs : List GateField) (m : GateMend) : Bool :=
  plainG fs m.Field && (m.When == [] || plainG fs m.When) && (m.From == [] || plainG fs m.From) && !(m.When == m.Field || m.From == m.Field || (m.When == [] && !(m.Is == [])) || ((m.Put == []) == (m.From == []))) && (m.Put == [] || putG fs m)
def mendS (l : List GateShape) (m : GateMend) : Bool := match l.find? (isK m.Kind) with
  | some s => mendB s.Fields m
  | none => false
theorem plain_none {fs : List GateField} {n : List UInt8} (h : fs.find? (isF n) = none) : plainG fs n = false := by rw [plainG, h]
theorem plain_some {fs : List GateField} {n : List UInt8} {f : GateField} (h : fs.find? (isF n) = some f) : plainG fs n = !(f.Kind == 4) := by rw [plainG, h]

def c_spec_l3Field : C := (.seq (.ops [⟨(some 4), none, (.mv (.c (.t (.int .i64 0))))⟩]) (.seq (.seq (.ops [⟨(some 5), none, (.mv (.c (.t (.int .i64 0))))⟩]) (.block 0 (.loop (.seq (.seq (.ops [⟨(some 6), none, (.mv (.t 5))⟩, ⟨(some 7), none, (.mv (.t 0))⟩, ⟨(some 8), none, (.len false (.t 7))⟩, ⟨(some 9), none, (.bin .lss (.t 6) (.t 8))⟩]) (.cond (.t 9) .skip (.exit 0))) (.seq (.block 1 (.seq (.ops [⟨(some 12), none, (.mv (.t 0))⟩, ⟨(some 13), none, (.mv (.t 5))⟩, ⟨(some 14), none, (.indexAddr 11 (.t 12) (.t 13))⟩, ⟨(some 15), none, (.fieldAddr 0 (.t 14))⟩, ⟨(some 16), none, (.load none (.t 15))⟩, ⟨(some 17), none, (.mv (.t 1))⟩, ⟨(some 18), none, (.bin .eql (.t 16) (.t 17))⟩]) (.cond (.t 18) (.seq (.ops [⟨(some 19), none, (.mv (.t 5))⟩, ⟨(some 4), none, (.mv (.t 19))⟩]) .ret) .skip))) (.ops [⟨(some 10), none, (.mv (.t 5))⟩, ⟨(some 11), none, (.bin .add (.t 10) (.c (.t (.int .i64 1))))⟩, ⟨(some 5), none, (.mv (.t 11))⟩])))))) (.seq (.ops [⟨(some 4), none, (.mv (.c (.t (.int .i64 (-1)))))⟩]) .ret)))
theorem k_spec_l3Field : comp Try.prog 20 (Try.f31.body.getD .skip) = some c_spec_l3Field := by kernel_rfl

theorem spec_l3Field (l : List GateField) (hl : l.length ≤ 1048576) (name : List UInt8)  (σ : Store) : ACalls Try.prog 31 [.t (tGateFieldS l), .t (.str (name))] σ fun rr σ' => rr = .t (.int .i64 (findI (isF name) l 0)) ∧ σ' = σ := by
  refine acalls_of Try.func31 (by decide +kernel) (code := Try.f31.body.getD .skip) (n := 20) (c := c_spec_l3Field) (rs := [(.tmp 4)]) rfl rfl k_spec_l3Field (by kernel_rfl) (by simp) (fun hσ => ?_)
  have hh : True := trivial
  have fin : ∀ {u : V} {τ : Store}, u = .t (.int .i64 (findI (isF name) l 0)) → u.lt σ.length = true → retV σ.length (fun rr σ' => rr = .t (.int .i64 (findI (isF name) l 0)) ∧ σ' = σ) (σ ++ τ) (some [u]) := fun h h2 => ret_same rfl hσ h2 ⟨h, rfl⟩
  have fin0 : ∀ {u : V}, u = .t (.int .i64 (findI (isF name) l 0)) → retV σ.length (fun rr σ' => rr = .t (.int .i64 (findI (isF name) l 0)) ∧ σ' = σ) σ (some [u]) := fun h => ret_same0 rfl ⟨h, rfl⟩
  simp -implicitDefEqProofs only [c_spec_l3Field, tGateFieldS, List.length_map, S0, S1, S2, S3, S4, S5, S6, S7, S8, S9, S10, S11, S12, S13, S14, S15, S16, S17, opv, opvs, eget, env0, setD, lenStr, lenSl, isNilP, isNilS, putAt, if_true, if_false, reduceCtorEq, Nat.reduceLeDiff, Nat.reduceEqDiff, Nat.reduceSub, Nat.reduceMul, Nat.reduceAdd]
  refine loop_p [5, 0, 1] [0, 1] (fun k : Nat => [(5, .t (.int .i64 (k : Nat)))]) (fun k => k ≤ l.length ∧ findI (isF name) (l.drop k) k = findI (isF name) l 0) (fun k => l.length - k) 0 (by simp) ⟨Nat.zero_le _, rfl⟩ rfl ?_
  rintro k ⟨hk, hall⟩
  simp -implicitDefEqProofs only [keep, List.length_map, S0, S1, S2, S3, S4, S5, S6, S7, S8, S9, S10, S11, S12, S13, S14, S15, S16, S17, opv, opvs, eget, env0, setD, lenStr, lenSl, isNilP, isNilS, putAt, if_true, if_false, reduceCtorEq, Nat.reduceLeDiff, Nat.reduceEqDiff, Nat.reduceSub, Nat.reduceMul, Nat.reduceAdd]
  refine cond_split (fun h1 => ?_) (fun h1 => ?_)
  · obtain ⟨x, hx, hlt⟩ := at_of h1
    have hd := drop_of hx
    have more := i64_succ (show k < 4611686018427387904 by omega)
    rw [hd] at hall
    simp -implicitDefEqProofs only [hx, nat_nn, Nat.zero_le, List.getElem?_map, Option.map_some, List.length_map, GateField.ts, more, S0, S1, S2, S3, S4, S5, S6, S7, S8, S9, S10, S11, S12, S13, S14, S15, S16, S17, opv, opvs, eget, env0, setD, lenStr, lenSl, isNilP, isNilS, putAt, if_true, if_false, reduceCtorEq, Nat.reduceLeDiff, Nat.reduceEqDiff, Nat.reduceSub, Nat.reduceMul, Nat.reduceAdd]
    refine cond_split (fun g1 => ?_) (fun g1 => ?_)
    · have hb : isF name x = true := g1
      simp -implicitDefEqProofs only [hx, nat_nn, Nat.zero_le, List.getElem?_map, Option.map_some, List.length_map, GateField.ts, more, S0, S1, S2, S3, S4, S5, S6, S7, S8, S9, S10, S11, S12, S13, S14, S15, S16, S17, opv, opvs, eget, env0, setD, lenStr, lenSl, isNilP, isNilS, putAt, if_true, if_false, reduceCtorEq, Nat.reduceLeDiff, Nat.reduceEqDiff, Nat.reduceSub, Nat.reduceMul, Nat.reduceAdd]
      rw [findI, if_pos hb] at hall
      first | exact fin0 (by rw [← hall]; try rfl) | exact fin (by rw [← hall]; try rfl) (by rfl)
    · have hb : isF name x = false := g1
      rw [findI, if_neg (by rw [hb]; simp)] at hall
      simp -implicitDefEqProofs only [more, S0, S1, S2, S3, S4, S5, S6, S7, S8, S9, S10, S11, S12, S13, S14, S15, S16, S17, opv, opvs, eget, env0, setD, lenStr, lenSl, isNilP, isNilS, putAt, if_true, if_false, reduceCtorEq, Nat.reduceLeDiff, Nat.reduceEqDiff, Nat.reduceSub, Nat.reduceMul, Nat.reduceAdd]
      first | exact lk_p0 (k + 1) (by simp) (by simp) (by omega) ⟨by omega, hall⟩ rfl | exact lk_p (k + 1) (by simp) (by simp) hσ rfl (by omega) ⟨by omega, hall⟩ (by simp [ltE, keep, eget, V.lt]) rfl | exact lk_pm (k + 1) (Nat.le_refl _) (by simp) hσ rfl rfl (by omega) ⟨by omega, hall⟩ (by simp [ltE, keep, eget, V.lt]) rfl
  · have hkk := end_of h1 hk
    rw [hkk, List.drop_length] at hall
    simp -implicitDefEqProofs only [S0, S1, S2, S3, S4, S5, S6, S7, S8, S9, S10, S11, S12, S13, S14, S15, S16, S17, opv, opvs, eget, env0, setD, lenStr, lenSl, isNilP, isNilS, putAt, if_true, if_false, reduceCtorEq, Nat.reduceLeDiff, Nat.reduceEqDiff, Nat.reduceSub, Nat.reduceMul, Nat.reduceAdd]
    first | exact fin0 (by rw [← hall]; try rfl) | exact fin (by rw [← hall]; try rfl) rfl

def c_impl_placeOf : C := (.seq (.ops [⟨(some 4), none, (.mv (.c (.t (.int .i64 0))))⟩]) (.seq (.seq (.ops [⟨(some 7), none, (.mv (.t 0))⟩, ⟨(some 8), none, (.len false (.t 7))⟩, ⟨(some 9), none, (.mv (.c (.t (.int .i64 0))))⟩]) (.block 0 (.loop (.seq (.ops [⟨(some 10), none, (.bin .lss (.t 9) (.t 8))⟩]) (.seq (.cond (.t 10) .skip (.exit 0)) (.seq (.block 1 (.seq (.ops [⟨(some 11), none, (.mv (.t 9))⟩, ⟨(some 12), none, (.indexAddr 11 (.t 7) (.t 9))⟩, ⟨(some 13), none, (.load (some 11) (.t 12))⟩, ⟨(some 6), none, (.new [(.t (.str [])), (.t (.int .i64 0)), (.t (.int .i64 0)), (.t (.int .i64 0)), .nils, (.t (.str [])), (.t (.int .i64 0)), (.t (.bool false)), (.t (.bool false)), (.t (.str [])), (.t (.str []))])⟩, ⟨(some 5), none, (.mv (.t 11))⟩, ⟨none, none, (.store 11 (.t 6) (.t 13))⟩]) (.seq (.ops [⟨(some 14), none, (.fieldAddr 0 (.t 6))⟩, ⟨(some 15), none, (.load none (.t 14))⟩, ⟨(some 16), none, (.mv (.t 1))⟩, ⟨(some 17), none, (.bin .eql (.t 15) (.t 16))⟩]) (.cond (.t 17) (.seq (.ops [⟨(some 18), none, (.mv (.t 5))⟩, ⟨(some 4), none, (.mv (.t 18))⟩]) .ret) .skip)))) (.ops [⟨(some 19), none, (.bin .add (.t 9) (.c (.t (.int .i64 1))))⟩, ⟨(some 9), none, (.mv (.t 19))⟩]))))))) (.seq (.ops [⟨(some 4), none, (.mv (.c (.t (.int .i64 (-1)))))⟩]) .ret)))
theorem k_impl_placeOf : comp Try.prog 20 (Try.f38.body.getD .skip) = some c_impl_placeOf := by kernel_rfl

theorem impl_placeOf (l : List GateField) (hl : l.length ≤ 1048576) (name : List UInt8)  (σ : Store) : ACalls Try.prog 38 [.t (tGateFieldS l), .t (.str (name))] σ fun rr σ' => rr = .t (.int .i64 (findI (isF name) l 0)) ∧ σ' = σ := by
  refine acalls_of Try.func38 (by decide +kernel) (code := Try.f38.body.getD .skip) (n := 20) (c := c_impl_placeOf) (rs := [(.tmp 4)]) rfl rfl k_impl_placeOf (by kernel_rfl) (by simp) (fun hσ => ?_)
  have hh : True := trivial
  have fin : ∀ {u : V} {τ : Store}, u = .t (.int .i64 (findI (isF name) l 0)) → u.lt σ.length = true → retV σ.length (fun rr σ' => rr = .t (.int .i64 (findI (isF name) l 0)) ∧ σ' = σ) (σ ++ τ) (some [u]) := fun h h2 => ret_same rfl hσ h2 ⟨h, rfl⟩
  have fin0 : ∀ {u : V}, u = .t (.int .i64 (findI (isF name) l 0)) → retV σ.length (fun rr σ' => rr = .t (.int .i64 (findI (isF name) l 0)) ∧ σ' = σ) σ (some [u]) := fun h => ret_same0 rfl ⟨h, rfl⟩
  simp -implicitDefEqProofs only [c_impl_placeOf, tGateFieldS, List.length_map, S0, S1, S2, S3, S4, S5, S6, S7, S8, S9, S10, S11, S12, S13, S14, S15, S16, S17, opv, opvs, eget, env0, setD, lenStr, lenSl, isNilP, isNilS, putAt, if_true, if_false, reduceCtorEq, Nat.reduceLeDiff, Nat.reduceEqDiff, Nat.reduceSub, Nat.reduceMul, Nat.reduceAdd]
  refine loop_p [9, 1, 7, 8] [1, 7, 8] (fun k : Nat => [(9, .t (.int .i64 (k : Nat)))]) (fun k => k ≤ l.length ∧ findI (isF name) (l.drop k) k = findI (isF name) l 0) (fun k => l.length - k) 0 (by simp) ⟨Nat.zero_le _, rfl⟩ rfl ?_
  rintro k ⟨hk, hall⟩
  simp -implicitDefEqProofs only [keep, List.length_map, S0, S1, S2, S3, S4, S5, S6, S7, S8, S9, S10, S11, S12, S13, S14, S15, S16, S17, opv, opvs, eget, env0, setD, lenStr, lenSl, isNilP, isNilS, putAt, if_true, if_false, reduceCtorEq, Nat.reduceLeDiff, Nat.reduceEqDiff, Nat.reduceSub, Nat.reduceMul, Nat.reduceAdd]
  refine cond_split (fun h1 => ?_) (fun h1 => ?_)
  · obtain ⟨x, hx, hlt⟩ := at_of h1
    have hd := drop_of hx
    have more := i64_succ (show k < 4611686018427387904 by omega)
    rw [hd] at hall
    simp -implicitDefEqProofs only [hx, nat_nn, Nat.zero_le, List.getElem?_map, Option.map_some, List.length_map, GateField.ts, more, S0, S1, S2, S3, S4, S5, S6, S7, S8, S9, S10, S11, S12, S13, S14, S15, S16, S17, opv, opvs, eget, env0, setD, lenStr, lenSl, isNilP, isNilS, putAt, if_true, if_false, reduceCtorEq, Nat.reduceLeDiff, Nat.reduceEqDiff, Nat.reduceSub, Nat.reduceMul, Nat.reduceAdd]
    refine cond_split (fun g1 => ?_) (fun g1 => ?_)
    · have hb : isF name x = true := g1
      simp -implicitDefEqProofs only [hx, nat_nn, Nat.zero_le, List.getElem?_map, Option.map_some, List.length_map, GateField.ts, more, S0, S1, S2, S3, S4, S5, S6, S7, S8, S9, S10, S11, S12, S13, S14, S15, S16, S17, opv, opvs, eget, env0, setD, lenStr, lenSl, isNilP, isNilS, putAt, if_true, if_false, reduceCtorEq, Nat.reduceLeDiff, Nat.reduceEqDiff, Nat.reduceSub, Nat.reduceMul, Nat.reduceAdd]
      rw [findI, if_pos hb] at hall
      first | exact fin0 (by rw [← hall]; try rfl) | exact fin (by rw [← hall]; try rfl) (by rfl)
    · have hb : isF name x = false := g1
      rw [findI, if_neg (by rw [hb]; simp)] at hall
      simp -implicitDefEqProofs only [more, S0, S1, S2, S3, S4, S5, S6, S7, S8, S9, S10, S11, S12, S13, S14, S15, S16, S17, opv, opvs, eget, env0, setD, lenStr, lenSl, isNilP, isNilS, putAt, if_true, if_false, reduceCtorEq, Nat.reduceLeDiff, Nat.reduceEqDiff, Nat.reduceSub, Nat.reduceMul, Nat.reduceAdd]
      first | exact lk_p0 (k + 1) (by simp) (by simp) (by omega) ⟨by omega, hall⟩ rfl | exact lk_p (k + 1) (by simp) (by simp) hσ rfl (by omega) ⟨by omega, hall⟩ (by simp [ltE, keep, eget, V.lt]) rfl | exact lk_pm (k + 1) (Nat.le_refl _) (by simp) hσ rfl rfl (by omega) ⟨by omega, hall⟩ (by simp [ltE, keep, eget, V.lt]) rfl
  · have hkk := end_of h1 hk
    rw [hkk, List.drop_length] at hall
    simp -implicitDefEqProofs only [S0, S1, S2, S3, S4, S5, S6, S7, S8, S9, S10, S11, S12, S13, S14, S15, S16, S17, opv, opvs, eget, env0, setD, lenStr, lenSl, isNilP, isNilS, putAt, if_true, if_false, reduceCtorEq, Nat.reduceLeDiff, Nat.reduceEqDiff, Nat.reduceSub, Nat.reduceMul, Nat.reduceAdd]
    first | exact fin0 (by rw [← hall]; try rfl) | exact fin (by rw [← hall]; try rfl) rfl

def c_spec_l3Plain : C := (.seq (.ops [⟨(some 4), none, (.mv (.c (.t (.bool false))))⟩]) (.seq (.ops [⟨(some 6), none, (.mv (.t 0))⟩, ⟨(some 7), none, (.mv (.t 1))⟩, ⟨(some 8), none, (.call (.c (.fn (.func 31) [])) [(.t 6), (.t 7)])⟩, ⟨(some 5), none, (.mv (.t 8))⟩]) (.seq (.ops [⟨(some 9), none, (.mv (.t 5))⟩, ⟨(some 10), none, (.bin .geq (.t 9) (.c (.t (.int .i64 0))))⟩, ⟨(some 11), none, (.mv (.t 10))⟩, ⟨(some 12), (some ⟨11, true⟩), (.mv (.t 0))⟩, ⟨(some 13), (some ⟨11, true⟩), (.mv (.t 5))⟩, ⟨(some 14), (some ⟨11, true⟩), (.indexAddr 11 (.t 12) (.t 13))⟩, ⟨(some 15), (some ⟨11, true⟩), (.fieldAddr 1 (.t 14))⟩, ⟨(some 16), (some ⟨11, true⟩), (.load none (.t 15))⟩, ⟨(some 17), (some ⟨11, true⟩), (.bin .neq (.t 16) (.c (.t (.int .i64 4))))⟩, ⟨(some 18), none, (.pick (.t 11) (.t 17) (.c (.t (.bool false))))⟩, ⟨(some 4), none, (.mv (.t 18))⟩]) .ret)))
theorem k_spec_l3Plain : comp Try.prog 19 (Try.f29.body.getD .skip) = some c_spec_l3Plain := by kernel_rfl

theorem spec_l3Plain (l : List GateField) (hl : l.length ≤ 1048576) (name : List UInt8)  (σ : Store) : ACalls Try.prog 29 [.t (tGateFieldS l), .t (.str (name))] σ fun rr σ' => rr = .t (.bool (plainG l name)) ∧ σ' = σ := by
  refine acalls_of Try.func29 (by decide +kernel) (code := Try.f29.body.getD .skip) (n := 19) (c := c_spec_l3Plain) (rs := [(.tmp 4)]) rfl rfl k_spec_l3Plain (by kernel_rfl) (by simp) (fun hσ => ?_)
  have hh : True := trivial
  have fin : ∀ {u : V} {τ : Store}, u = .t (.bool (plainG l name)) → u.lt σ.length = true → retV σ.length (fun rr σ' => rr = .t (.bool (plainG l name)) ∧ σ' = σ) (σ ++ τ) (some [u]) := fun h h2 => ret_same rfl hσ h2 ⟨h, rfl⟩
  have fin0 : ∀ {u : V}, u = .t (.bool (plainG l name)) → retV σ.length (fun rr σ' => rr = .t (.bool (plainG l name)) ∧ σ' = σ) σ (some [u]) := fun h => ret_same0 rfl ⟨h, rfl⟩
  simp -implicitDefEqProofs only [c_spec_l3Plain, nat_nn, Nat.zero_le, List.getElem?_map, Option.map_some, List.length_map, GateField.ts, S0, S1, S2, S3, S4, S5, S6, S7, S8, S9, S10, S11, S12, S13, S14, S15, S16, S17, opv, opvs, eget, env0, setD, lenStr, lenSl, isNilP, isNilS, putAt, if_true, if_false, reduceCtorEq, Nat.reduceLeDiff, Nat.reduceEqDiff, Nat.reduceSub, Nat.reduceMul, Nat.reduceAdd]
  refine call_pure (spec_l3Field l hl name _) ?_
  rcases find_i (isF name) l 0 with ⟨h1, h2⟩ | ⟨i, s, hg, h1, h2⟩
  · have d1 : decide ((-1 : Int) ≥ 0) = false := rfl
    rw [h1]
    simp -implicitDefEqProofs only [d1, cond_t, cond_f, S0, S1, S2, S3, S4, S5, S6, S7, S8, S9, S10, S11, S12, S13, S14, S15, S16, S17, opv, opvs, eget, env0, setD, lenStr, lenSl, isNilP, isNilS, putAt, if_true, if_false, reduceCtorEq, Nat.reduceLeDiff, Nat.reduceEqDiff, Nat.reduceSub, Nat.reduceMul, Nat.reduceAdd]
    first | exact fin0 (tb (plain_none h2).symm) | exact fin (tb (plain_none h2).symm) rfl
  · rw [Nat.zero_add] at h1
    have d1 : decide (((i : Nat) : Int) ≥ 0) = true := by simp
    rw [h1]
    simp -implicitDefEqProofs only [d1, cond_t, cond_f, S0, S1, S2, S3, S4, S5, S6, S7, S8, S9, S10, S11, S12, S13, S14, S15, S16, S17, opv, opvs, eget, env0, setD, lenStr, lenSl, isNilP, isNilS, putAt, if_true, if_false, reduceCtorEq, Nat.reduceLeDiff, Nat.reduceEqDiff, Nat.reduceSub, Nat.reduceMul, Nat.reduceAdd]
    simp -implicitDefEqProofs only [cond_t, cond_f, hg, nat_nn, Nat.zero_le, List.getElem?_map, Option.map_some, List.length_map, GateField.ts, tGateFieldS, S0, S1, S2, S3, S4, S5, S6, S7, S8, S9, S10, S11, S12, S13, S14, S15, S16, S17, opv, opvs, eget, env0, setD, lenStr, lenSl, isNilP, isNilS, putAt, if_true, if_false, reduceCtorEq, Nat.reduceLeDiff, Nat.reduceEqDiff, Nat.reduceSub, Nat.reduceMul, Nat.reduceAdd]
    first | exact fin0 (tb (by rw [plain_some h2]; rfl)) | exact fin (tb (by rw [plain_some h2]; rfl)) rfl

def c_impl_mendOk_1 : C := (.seq (.ops [⟨(some 3), none, (.mv (.c (.t (.bool false))))⟩]) (.seq (.ops [⟨(some 5), none, (.load none (.t 1))⟩, ⟨(some 6), none, (.mv (.t 0))⟩, ⟨(some 7), none, (.call (.c (.fn (.func 38) [])) [(.t 5), (.t 6)])⟩, ⟨(some 4), none, (.mv (.t 7))⟩]) (.seq (.ops [⟨(some 8), none, (.mv (.t 4))⟩, ⟨(some 9), none, (.bin .geq (.t 8) (.c (.t (.int .i64 0))))⟩, ⟨(some 10), none, (.mv (.t 9))⟩, ⟨(some 11), (some ⟨10, true⟩), (.load none (.t 1))⟩, ⟨(some 12), (some ⟨10, true⟩), (.mv (.t 4))⟩, ⟨(some 13), (some ⟨10, true⟩), (.indexAddr 11 (.t 11) (.t 12))⟩, ⟨(some 14), (some ⟨10, true⟩), (.fieldAddr 1 (.t 13))⟩, ⟨(some 15), (some ⟨10, true⟩), (.load none (.t 14))⟩, ⟨(some 16), (some ⟨10, true⟩), (.bin .neq (.t 15) (.c (.t (.int .i64 4))))⟩, ⟨(some 17), none, (.pick (.t 10) (.t 16) (.c (.t (.bool false))))⟩, ⟨(some 3), none, (.mv (.t 17))⟩]) .ret)))
theorem k_impl_mendOk_1 : comp Try.prog 18 (Try.f37.body.getD .skip) = some c_impl_mendOk_1 := by kernel_rfl

theorem impl_mendOk_1 (l : List GateField) (hl : l.length ≤ 1048576) (name : List UInt8) (b : Nat)  (σ : Store) (hbx : σ[b]? = some (.box [.t (tGateFieldS l)])) : ACalls Try.prog 37 [.t (.str (name)), .ptr b 0] σ fun rr σ' => rr = .t (.bool (plainG l name)) ∧ σ' = σ := by
  refine acalls_of Try.func37 (by decide +kernel) (code := Try.f37.body.getD .skip) (n := 18) (c := c_impl_mendOk_1) (rs := [(.tmp 3)]) rfl rfl k_impl_mendOk_1 (by kernel_rfl) (by simp) (fun hσ => ?_)
  have hh : True := trivial
  have fin : ∀ {u : V} {τ : Store}, u = .t (.bool (plainG l name)) → u.lt σ.length = true → retV σ.length (fun rr σ' => rr = .t (.bool (plainG l name)) ∧ σ' = σ) (σ ++ τ) (some [u]) := fun h h2 => ret_same rfl hσ h2 ⟨h, rfl⟩
  have fin0 : ∀ {u : V}, u = .t (.bool (plainG l name)) → retV σ.length (fun rr σ' => rr = .t (.bool (plainG l name)) ∧ σ' = σ) σ (some [u]) := fun h => ret_same0 rfl ⟨h, rfl⟩
  simp -implicitDefEqProofs only [c_impl_mendOk_1, nat_nn, Nat.zero_le, List.getElem?_map, Option.map_some, List.length_map, GateField.ts, hbx, S0, S1, S2, S3, S4, S5, S6, S7, S8, S9, S10, S11, S12, S13, S14, S15, S16, S17, opv, opvs, eget, env0, setD, lenStr, lenSl, isNilP, isNilS, putAt, if_true, if_false, reduceCtorEq, Nat.reduceLeDiff, Nat.reduceEqDiff, Nat.reduceSub, Nat.reduceMul, Nat.reduceAdd]
  refine call_pure (impl_placeOf l hl name _) ?_
  rcases find_i (isF name) l 0 with ⟨h1, h2⟩ | ⟨i, s, hg, h1, h2⟩
  · have d1 : decide ((-1 : Int) ≥ 0) = false := rfl
    rw [h1]
    simp -implicitDefEqProofs only [d1, cond_t, cond_f, hbx, S0, S1, S2, S3, S4, S5, S6, S7, S8, S9, S10, S11, S12, S13, S14, S15, S16, S17, opv, opvs, eget, env0, setD, lenStr, lenSl, isNilP, isNilS, putAt, if_true, if_false, reduceCtorEq, Nat.reduceLeDiff, Nat.reduceEqDiff, Nat.reduceSub, Nat.reduceMul, Nat.reduceAdd]
    first | exact fin0 (tb (plain_none h2).symm) | exact fin (tb (plain_none h2).symm) rfl
  · rw [Nat.zero_add] at h1
    have d1 : decide (((i : Nat) : Int) ≥ 0) = true := by simp
    rw [h1]
    simp -implicitDefEqProofs only [d1, cond_t, cond_f, hbx, S0, S1, S2, S3, S4, S5, S6, S7, S8, S9, S10, S11, S12, S13, S14, S15, S16, S17, opv, opvs, eget, env0, setD, lenStr, lenSl, isNilP, isNilS, putAt, if_true, if_false, reduceCtorEq, Nat.reduceLeDiff, Nat.reduceEqDiff, Nat.reduceSub, Nat.reduceMul, Nat.reduceAdd]
    simp -implicitDefEqProofs only [cond_t, cond_f, hg, nat_nn, Nat.zero_le, List.getElem?_map, Option.map_some, List.length_map, GateField.ts, tGateFieldS, hbx, S0, S1, S2, S3, S4, S5, S6, S7, S8, S9, S10, S11, S12, S13, S14, S15, S16, S17, opv, opvs, eget, env0, setD, lenStr, lenSl, isNilP, isNilS, putAt, if_true, if_false, reduceCtorEq, Nat.reduceLeDiff, Nat.reduceEqDiff, Nat.reduceSub, Nat.reduceMul, Nat.reduceAdd]
    first | exact fin0 (tb (by rw [plain_some h2]; rfl)) | exact fin (tb (by rw [plain_some h2]; rfl)) rfl

end Go.Proofs.Ytcjchimenfadkaa.W
