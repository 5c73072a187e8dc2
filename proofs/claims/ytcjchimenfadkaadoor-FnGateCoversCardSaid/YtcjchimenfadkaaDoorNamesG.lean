/- Names and beginnings of texts. Conditions: none. -/
import Derived.Test.YtcjchimenfadkaaDoorTypesGateD
import Derived.KernelRfl
set_option linter.unusedSimpArgs false
set_option linter.unusedVariables false
set_option linter.defProp false
open Go Go.Ab
set_option maxHeartbeats 2000000
namespace Go.Proofs.YtcjchimenfadkaaDoor.W
def wi (n lo hi : Int) : Bool := decide (lo ≤ n) && decide (n ≤ hi)
def bytB (n : Int) : Bool := (decide (n ≥ 97) && decide (n ≤ 122)) || (decide (n ≥ 48) && decide (n ≤ 57)) || n == 45
def byteOk (b : UInt8) : Bool := bytB (b.toNat : Int)
def nameOk (s : List UInt8) : Bool := wi s.length 1 16 && s.all byteOk
def maybeOk (s : List UInt8) : Bool := s == [] || nameOk s
def begs (s p : List UInt8) : Bool := decide (p.length ≤ s.length) && s.take p.length == p
def c_spec_l1In : C := (.seq (.ops [⟨(some 6), none, (.mv (.c (.t (.bool false))))⟩]) (.seq (.ops [⟨(some 7), none, (.mv (.t 0))⟩, ⟨(some 8), none, (.mv (.t 1))⟩, ⟨(some 9), none, (.bin .geq (.t 7) (.t 8))⟩, ⟨(some 10), none, (.mv (.t 9))⟩, ⟨(some 11), (some ⟨10, true⟩), (.mv (.t 0))⟩, ⟨(some 12), (some ⟨10, true⟩), (.mv (.t 2))⟩, ⟨(some 13), (some ⟨10, true⟩), (.bin .leq (.t 11) (.t 12))⟩, ⟨(some 14), none, (.pick (.t 10) (.t 13) (.c (.t (.bool false))))⟩, ⟨(some 6), none, (.mv (.t 14))⟩]) .ret))
theorem k_spec_l1In : comp Tryd.prog 15 (Tryd.f82.body.getD .skip) = some c_spec_l1In := by kernel_rfl

theorem spec_l1In (n lo hi : Int)  (σ : Store) : ACalls Tryd.prog 82 [.t (.int .i64 (n)), .t (.int .i64 (lo)), .t (.int .i64 (hi))] σ fun rr σ' => rr = .t (.bool (wi n lo hi)) ∧ σ' = σ := by
  refine acalls_of Tryd.func82 (by decide +kernel) (code := Tryd.f82.body.getD .skip) (n := 15) (c := c_spec_l1In) (rs := [(.tmp 6)]) rfl rfl k_spec_l1In (by kernel_rfl) (by simp) (fun hσ => ?_)
  have hh : True := trivial
  have fin : ∀ {u : V} {τ : Store}, u = .t (.bool (wi n lo hi)) → u.lt σ.length = true → retV σ.length (fun rr σ' => rr = .t (.bool (wi n lo hi)) ∧ σ' = σ) (σ ++ τ) (some [u]) := fun h h2 => ret_same rfl hσ h2 ⟨h, rfl⟩
  have fin0 : ∀ {u : V}, u = .t (.bool (wi n lo hi)) → retV σ.length (fun rr σ' => rr = .t (.bool (wi n lo hi)) ∧ σ' = σ) σ (some [u]) := fun h => ret_same0 rfl ⟨h, rfl⟩
  simp -implicitDefEqProofs only [c_spec_l1In, S0, S1, S2, S3, S4, S5, S6, S7, S8, S9, S10, S11, S12, S13, S14, S15, S16, S17, opv, opvs, eget, env0, setD, lenStr, lenSl, isNilP, isNilS, putAt, if_true, if_false, reduceCtorEq, Nat.reduceLeDiff, Nat.reduceEqDiff, Nat.reduceSub, Nat.reduceMul, Nat.reduceAdd]
  repeat' (first
    | ((with_reducible refine cond_known (fun h => ?_) (fun h => ?_)) <;> (replace hh := And.intro h hh; clear h; simp -implicitDefEqProofs only [hh, cond_t, cond_f, S0, S1, S2, S3, S4, S5, S6, S7, S8, S9, S10, S11, S12, S13, S14, S15, S16, S17, opv, opvs, eget, env0, setD, lenStr, lenSl, isNilP, isNilS, putAt, if_true, if_false, reduceCtorEq, Nat.reduceLeDiff, Nat.reduceEqDiff, Nat.reduceSub, Nat.reduceMul, Nat.reduceAdd]))
    | (first | ((with_reducible refine fin0 ?_); refine tb ?_; (try simp only [Known] at hh); grind [wi]) | ((with_reducible refine fin ?_ ?_); rotate_left; exact rfl; refine tb ?_; (try simp only [Known] at hh); grind [wi])))

def c_spec_l1Byte : C := (.seq (.ops [⟨(some 2), none, (.mv (.c (.t (.bool false))))⟩]) (.seq (.ops [⟨(some 3), none, (.mv (.t 0))⟩, ⟨(some 4), none, (.bin .geq (.t 3) (.c (.t (.int .u8 97))))⟩, ⟨(some 5), none, (.mv (.t 4))⟩, ⟨(some 6), (some ⟨5, true⟩), (.mv (.t 0))⟩, ⟨(some 7), (some ⟨5, true⟩), (.bin .leq (.t 6) (.c (.t (.int .u8 122))))⟩, ⟨(some 8), none, (.pick (.t 5) (.t 7) (.c (.t (.bool false))))⟩, ⟨(some 9), none, (.mv (.t 8))⟩, ⟨(some 10), (some ⟨9, false⟩), (.mv (.t 0))⟩, ⟨(some 11), (some ⟨9, false⟩), (.bin .geq (.t 10) (.c (.t (.int .u8 48))))⟩, ⟨(some 12), (some ⟨9, false⟩), (.mv (.t 11))⟩, ⟨(some 13), (some ⟨12, true⟩), (.mv (.t 0))⟩, ⟨(some 14), (some ⟨12, true⟩), (.bin .leq (.t 13) (.c (.t (.int .u8 57))))⟩, ⟨(some 15), (some ⟨9, false⟩), (.pick (.t 12) (.t 14) (.c (.t (.bool false))))⟩, ⟨(some 16), none, (.pick (.t 9) (.c (.t (.bool true))) (.t 15))⟩, ⟨(some 17), none, (.mv (.t 16))⟩, ⟨(some 18), (some ⟨17, false⟩), (.mv (.t 0))⟩, ⟨(some 19), (some ⟨17, false⟩), (.bin .eql (.t 18) (.c (.t (.int .u8 45))))⟩, ⟨(some 20), none, (.pick (.t 17) (.c (.t (.bool true))) (.t 19))⟩, ⟨(some 2), none, (.mv (.t 20))⟩]) .ret))
theorem k_spec_l1Byte : comp Tryd.prog 21 (Tryd.f107.body.getD .skip) = some c_spec_l1Byte := by kernel_rfl

theorem spec_l1Byte (n : Int)  (σ : Store) : ACalls Tryd.prog 107 [.t (.int .u8 n)] σ fun rr σ' => rr = .t (.bool (bytB n)) ∧ σ' = σ := by
  refine acalls_of Tryd.func107 (by decide +kernel) (code := Tryd.f107.body.getD .skip) (n := 21) (c := c_spec_l1Byte) (rs := [(.tmp 2)]) rfl rfl k_spec_l1Byte (by kernel_rfl) (by simp) (fun hσ => ?_)
  have hh : True := trivial
  have fin : ∀ {u : V} {τ : Store}, u = .t (.bool (bytB n)) → u.lt σ.length = true → retV σ.length (fun rr σ' => rr = .t (.bool (bytB n)) ∧ σ' = σ) (σ ++ τ) (some [u]) := fun h h2 => ret_same rfl hσ h2 ⟨h, rfl⟩
  have fin0 : ∀ {u : V}, u = .t (.bool (bytB n)) → retV σ.length (fun rr σ' => rr = .t (.bool (bytB n)) ∧ σ' = σ) σ (some [u]) := fun h => ret_same0 rfl ⟨h, rfl⟩
  simp -implicitDefEqProofs only [c_spec_l1Byte, S0, S1, S2, S3, S4, S5, S6, S7, S8, S9, S10, S11, S12, S13, S14, S15, S16, S17, opv, opvs, eget, env0, setD, lenStr, lenSl, isNilP, isNilS, putAt, if_true, if_false, reduceCtorEq, Nat.reduceLeDiff, Nat.reduceEqDiff, Nat.reduceSub, Nat.reduceMul, Nat.reduceAdd]
  repeat' (first
    | ((with_reducible refine cond_known (fun h => ?_) (fun h => ?_)) <;> (replace hh := And.intro h hh; clear h; simp -implicitDefEqProofs only [hh, cond_t, cond_f, S0, S1, S2, S3, S4, S5, S6, S7, S8, S9, S10, S11, S12, S13, S14, S15, S16, S17, opv, opvs, eget, env0, setD, lenStr, lenSl, isNilP, isNilS, putAt, if_true, if_false, reduceCtorEq, Nat.reduceLeDiff, Nat.reduceEqDiff, Nat.reduceSub, Nat.reduceMul, Nat.reduceAdd]))
    | (first | ((with_reducible refine fin0 ?_); refine tb ?_; (try simp only [Known] at hh); grind [bytB]) | ((with_reducible refine fin ?_ ?_); rotate_left; exact rfl; refine tb ?_; (try simp only [Known] at hh); grind [bytB])))

def c_impl_nameByte : C := (.seq (.ops [⟨(some 2), none, (.mv (.c (.t (.bool false))))⟩]) (.seq (.ops [⟨(some 3), none, (.mv (.t 0))⟩, ⟨(some 4), none, (.bin .geq (.t 3) (.c (.t (.int .u8 97))))⟩, ⟨(some 5), none, (.mv (.t 4))⟩, ⟨(some 6), (some ⟨5, true⟩), (.mv (.t 0))⟩, ⟨(some 7), (some ⟨5, true⟩), (.bin .leq (.t 6) (.c (.t (.int .u8 122))))⟩, ⟨(some 8), none, (.pick (.t 5) (.t 7) (.c (.t (.bool false))))⟩, ⟨(some 9), none, (.mv (.t 8))⟩, ⟨(some 10), (some ⟨9, false⟩), (.mv (.t 0))⟩, ⟨(some 11), (some ⟨9, false⟩), (.bin .geq (.t 10) (.c (.t (.int .u8 48))))⟩, ⟨(some 12), (some ⟨9, false⟩), (.mv (.t 11))⟩, ⟨(some 13), (some ⟨12, true⟩), (.mv (.t 0))⟩, ⟨(some 14), (some ⟨12, true⟩), (.bin .leq (.t 13) (.c (.t (.int .u8 57))))⟩, ⟨(some 15), (some ⟨9, false⟩), (.pick (.t 12) (.t 14) (.c (.t (.bool false))))⟩, ⟨(some 16), none, (.pick (.t 9) (.c (.t (.bool true))) (.t 15))⟩, ⟨(some 17), none, (.mv (.t 16))⟩, ⟨(some 18), (some ⟨17, false⟩), (.mv (.t 0))⟩, ⟨(some 19), (some ⟨17, false⟩), (.bin .eql (.t 18) (.c (.t (.int .u8 45))))⟩, ⟨(some 20), none, (.pick (.t 17) (.c (.t (.bool true))) (.t 19))⟩, ⟨(some 2), none, (.mv (.t 20))⟩]) .ret))
theorem k_impl_nameByte : comp Tryd.prog 21 (Tryd.f122.body.getD .skip) = some c_impl_nameByte := by kernel_rfl

theorem impl_nameByte (n : Int)  (σ : Store) : ACalls Tryd.prog 122 [.t (.int .u8 n)] σ fun rr σ' => rr = .t (.bool (bytB n)) ∧ σ' = σ := by
  refine acalls_of Tryd.func122 (by decide +kernel) (code := Tryd.f122.body.getD .skip) (n := 21) (c := c_impl_nameByte) (rs := [(.tmp 2)]) rfl rfl k_impl_nameByte (by kernel_rfl) (by simp) (fun hσ => ?_)
  have hh : True := trivial
  have fin : ∀ {u : V} {τ : Store}, u = .t (.bool (bytB n)) → u.lt σ.length = true → retV σ.length (fun rr σ' => rr = .t (.bool (bytB n)) ∧ σ' = σ) (σ ++ τ) (some [u]) := fun h h2 => ret_same rfl hσ h2 ⟨h, rfl⟩
  have fin0 : ∀ {u : V}, u = .t (.bool (bytB n)) → retV σ.length (fun rr σ' => rr = .t (.bool (bytB n)) ∧ σ' = σ) σ (some [u]) := fun h => ret_same0 rfl ⟨h, rfl⟩
  simp -implicitDefEqProofs only [c_impl_nameByte, S0, S1, S2, S3, S4, S5, S6, S7, S8, S9, S10, S11, S12, S13, S14, S15, S16, S17, opv, opvs, eget, env0, setD, lenStr, lenSl, isNilP, isNilS, putAt, if_true, if_false, reduceCtorEq, Nat.reduceLeDiff, Nat.reduceEqDiff, Nat.reduceSub, Nat.reduceMul, Nat.reduceAdd]
  repeat' (first
    | ((with_reducible refine cond_known (fun h => ?_) (fun h => ?_)) <;> (replace hh := And.intro h hh; clear h; simp -implicitDefEqProofs only [hh, cond_t, cond_f, S0, S1, S2, S3, S4, S5, S6, S7, S8, S9, S10, S11, S12, S13, S14, S15, S16, S17, opv, opvs, eget, env0, setD, lenStr, lenSl, isNilP, isNilS, putAt, if_true, if_false, reduceCtorEq, Nat.reduceLeDiff, Nat.reduceEqDiff, Nat.reduceSub, Nat.reduceMul, Nat.reduceAdd]))
    | (first | ((with_reducible refine fin0 ?_); refine tb ?_; (try simp only [Known] at hh); grind [bytB]) | ((with_reducible refine fin ?_ ?_); rotate_left; exact rfl; refine tb ?_; (try simp only [Known] at hh); grind [bytB])))

def c_spec_l1NameOk : C := (.seq (.ops [⟨(some 2), none, (.mv (.c (.t (.bool false))))⟩]) (.seq (.seq (.ops [⟨(some 4), none, (.mv (.t 0))⟩, ⟨(some 5), none, (.len true (.t 4))⟩, ⟨(some 6), none, (.call (.c (.fn (.func 82) [])) [(.t 5), (.c (.t (.int .i64 1))), (.c (.t (.int .i64 16)))])⟩, ⟨(some 7), none, (.un .not (.t 6))⟩]) (.cond (.t 7) (.seq (.ops [⟨(some 2), none, (.mv (.c (.t (.bool false))))⟩]) .ret) .skip)) (.seq (.seq (.ops [⟨(some 3), none, (.mv (.c (.t (.int .i64 0))))⟩]) (.block 0 (.loop (.seq (.seq (.ops [⟨(some 8), none, (.mv (.t 3))⟩, ⟨(some 9), none, (.mv (.t 0))⟩, ⟨(some 10), none, (.len true (.t 9))⟩, ⟨(some 11), none, (.bin .lss (.t 8) (.t 10))⟩]) (.cond (.t 11) .skip (.exit 0))) (.seq (.block 1 (.seq (.ops [⟨(some 14), none, (.mv (.t 0))⟩, ⟨(some 15), none, (.mv (.t 3))⟩, ⟨(some 16), none, (.index (.t 14) (.t 15))⟩, ⟨(some 17), none, (.call (.c (.fn (.func 107) [])) [(.t 16)])⟩, ⟨(some 18), none, (.un .not (.t 17))⟩]) (.cond (.t 18) (.seq (.ops [⟨(some 2), none, (.mv (.c (.t (.bool false))))⟩]) .ret) .skip))) (.ops [⟨(some 12), none, (.mv (.t 3))⟩, ⟨(some 13), none, (.bin .add (.t 12) (.c (.t (.int .i64 1))))⟩, ⟨(some 3), none, (.mv (.t 13))⟩])))))) (.seq (.ops [⟨(some 2), none, (.mv (.c (.t (.bool true))))⟩]) .ret))))
theorem k_spec_l1NameOk : comp Tryd.prog 19 (Tryd.f79.body.getD .skip) = some c_spec_l1NameOk := by kernel_rfl

theorem spec_l1NameOk (s : List UInt8) (hs : s.length ≤ 1048576) (σ : Store) : ACalls Tryd.prog 79 [.t (.str (s))] σ fun rr σ' => rr = .t (.bool (nameOk s)) ∧ σ' = σ := by
  refine acalls_of Tryd.func79 (by decide +kernel) (code := Tryd.f79.body.getD .skip) (n := 19) (c := c_spec_l1NameOk) (rs := [(.tmp 2)]) rfl rfl k_spec_l1NameOk (by kernel_rfl) (by simp) (fun hσ => ?_)
  have hh : True := trivial
  have fin : ∀ {u : V} {τ : Store}, u = .t (.bool (nameOk s)) → u.lt σ.length = true → retV σ.length (fun rr σ' => rr = .t (.bool (nameOk s)) ∧ σ' = σ) (σ ++ τ) (some [u]) := fun h h2 => ret_same rfl hσ h2 ⟨h, rfl⟩
  have fin0 : ∀ {u : V}, u = .t (.bool (nameOk s)) → retV σ.length (fun rr σ' => rr = .t (.bool (nameOk s)) ∧ σ' = σ) σ (some [u]) := fun h => ret_same0 rfl ⟨h, rfl⟩
  simp -implicitDefEqProofs only [c_spec_l1NameOk, S0, S1, S2, S3, S4, S5, S6, S7, S8, S9, S10, S11, S12, S13, S14, S15, S16, S17, opv, opvs, eget, env0, setD, lenStr, lenSl, isNilP, isNilS, putAt, if_true, if_false, reduceCtorEq, Nat.reduceLeDiff, Nat.reduceEqDiff, Nat.reduceSub, Nat.reduceMul, Nat.reduceAdd]
  repeat' (first
    | ((with_reducible refine cond_known (fun h => ?_) (fun h => ?_)) <;> (replace hh := And.intro h hh; clear h; simp -implicitDefEqProofs only [hh, cond_t, cond_f, S0, S1, S2, S3, S4, S5, S6, S7, S8, S9, S10, S11, S12, S13, S14, S15, S16, S17, opv, opvs, eget, env0, setD, lenStr, lenSl, isNilP, isNilS, putAt, if_true, if_false, reduceCtorEq, Nat.reduceLeDiff, Nat.reduceEqDiff, Nat.reduceSub, Nat.reduceMul, Nat.reduceAdd]))
    | ((with_reducible refine call_pure (spec_l1In _ _ _ _) ?_); simp -implicitDefEqProofs only [hh, cond_t, cond_f, S0, S1, S2, S3, S4, S5, S6, S7, S8, S9, S10, S11, S12, S13, S14, S15, S16, S17, opv, opvs, eget, env0, setD, lenStr, lenSl, isNilP, isNilS, putAt, if_true, if_false, reduceCtorEq, Nat.reduceLeDiff, Nat.reduceEqDiff, Nat.reduceSub, Nat.reduceMul, Nat.reduceAdd])
    | (first | ((with_reducible refine fin0 ?_); refine tb ?_; (try simp only [Known] at hh); grind [nameOk]) | ((with_reducible refine fin ?_ ?_); rotate_left; exact rfl; refine tb ?_; (try simp only [Known] at hh); grind [nameOk])))
  refine loop_p [3, 0] [0] (fun k : Nat => [(3, .t (.int .i64 (k : Nat)))]) (fun k => k ≤ (s).length ∧ ((s).take k).all byteOk = true) (fun k => (s).length - k) 0 (by simp) ⟨Nat.zero_le _, rfl⟩ rfl ?_
  rintro k ⟨hk, hall⟩
  simp -implicitDefEqProofs only [keep, List.length_map, S0, S1, S2, S3, S4, S5, S6, S7, S8, S9, S10, S11, S12, S13, S14, S15, S16, S17, opv, opvs, eget, env0, setD, lenStr, lenSl, isNilP, isNilS, putAt, if_true, if_false, reduceCtorEq, Nat.reduceLeDiff, Nat.reduceEqDiff, Nat.reduceSub, Nat.reduceMul, Nat.reduceAdd]
  refine cond_split (fun h1 => ?_) (fun h1 => ?_)
  · obtain ⟨x, hx, hlt⟩ := at_of h1
    clear h1 hh
    have hh : True := trivial
    simp -implicitDefEqProofs only [hx, nat_nn, Nat.zero_le, List.getElem?_map, Option.map_some, i64_succ (show k < 4611686018427387904 by omega), S0, S1, S2, S3, S4, S5, S6, S7, S8, S9, S10, S11, S12, S13, S14, S15, S16, S17, opv, opvs, eget, env0, setD, lenStr, lenSl, isNilP, isNilS, putAt, if_true, if_false, reduceCtorEq, Nat.reduceLeDiff, Nat.reduceEqDiff, Nat.reduceSub, Nat.reduceMul, Nat.reduceAdd]
    repeat' (first
    | ((with_reducible refine cond_known (fun h => ?_) (fun h => ?_)) <;> (replace hh := And.intro h hh; clear h; simp -implicitDefEqProofs only [hh, cond_t, cond_f, hx, nat_nn, Nat.zero_le, List.getElem?_map, Option.map_some, i64_succ (show k < 4611686018427387904 by omega), S0, S1, S2, S3, S4, S5, S6, S7, S8, S9, S10, S11, S12, S13, S14, S15, S16, S17, opv, opvs, eget, env0, setD, lenStr, lenSl, isNilP, isNilS, putAt, if_true, if_false, reduceCtorEq, Nat.reduceLeDiff, Nat.reduceEqDiff, Nat.reduceSub, Nat.reduceMul, Nat.reduceAdd]))
    | ((with_reducible refine call_pure (spec_l1Byte _ _) ?_); simp -implicitDefEqProofs only [hh, cond_t, cond_f, hx, nat_nn, Nat.zero_le, List.getElem?_map, Option.map_some, i64_succ (show k < 4611686018427387904 by omega), S0, S1, S2, S3, S4, S5, S6, S7, S8, S9, S10, S11, S12, S13, S14, S15, S16, S17, opv, opvs, eget, env0, setD, lenStr, lenSl, isNilP, isNilS, putAt, if_true, if_false, reduceCtorEq, Nat.reduceLeDiff, Nat.reduceEqDiff, Nat.reduceSub, Nat.reduceMul, Nat.reduceAdd])
    | (first | ((with_reducible refine fin0 ?_); refine tb ?_; (try simp only [Known] at hh); have hno := all_not (l := (s)) (p := byteOk) hx; grind [nameOk, wi, byteOk, bytB]) | ((with_reducible refine fin ?_ ?_); rotate_left; exact rfl; refine tb ?_; (try simp only [Known] at hh); have hno := all_not (l := (s)) (p := byteOk) hx; grind [nameOk, wi, byteOk, bytB]) | (refine lk_p0 (k + 1) (by simp) (by simp) (by omega) ⟨by omega, all_step hx hall ?_⟩ rfl; (try simp only [Known] at hh); grind [byteOk, bytB]) | (refine lk_p (k + 1) (by simp) (by simp) hσ rfl (by omega) ⟨by omega, all_step hx hall ?_⟩ rfl rfl; (try simp only [Known] at hh); grind [byteOk, bytB]) | (refine lk_pm (k + 1) (Nat.le_refl _) (by simp) hσ rfl rfl (by omega) ⟨by omega, all_step hx hall ?_⟩ (by simp [ltE, keep, eget, V.lt]) rfl; (try simp only [Known] at hh); grind [byteOk, bytB])))
  replace hall := all_len hall ((end_of h1 hk).trans (by rfl))
  clear h1 hk
  simp -implicitDefEqProofs only [S0, S1, S2, S3, S4, S5, S6, S7, S8, S9, S10, S11, S12, S13, S14, S15, S16, S17, opv, opvs, eget, env0, setD, lenStr, lenSl, isNilP, isNilS, putAt, if_true, if_false, reduceCtorEq, Nat.reduceLeDiff, Nat.reduceEqDiff, Nat.reduceSub, Nat.reduceMul, Nat.reduceAdd]
  (first | ((with_reducible refine fin0 ?_); refine tb ?_; (try simp only [Known] at hh); grind [nameOk]) | ((with_reducible refine fin ?_ ?_); rotate_left; exact rfl; refine tb ?_; (try simp only [Known] at hh); grind [nameOk]))
def c_impl_nameBytes : C := (.seq (.ops [⟨(some 2), none, (.mv (.c (.t (.bool false))))⟩]) (.seq (.seq (.ops [⟨(some 4), none, (.mv (.t 0))⟩, ⟨(some 5), none, (.len true (.t 4))⟩, ⟨(some 6), none, (.mv (.c (.t (.int .i64 0))))⟩]) (.block 0 (.loop (.seq (.ops [⟨(some 7), none, (.bin .lss (.t 6) (.t 5))⟩]) (.seq (.cond (.t 7) .skip (.exit 0)) (.seq (.block 1 (.seq (.ops [⟨(some 8), none, (.mv (.t 6))⟩, ⟨(some 3), none, (.mv (.t 8))⟩]) (.seq (.ops [⟨(some 9), none, (.mv (.t 0))⟩, ⟨(some 10), none, (.mv (.t 3))⟩, ⟨(some 11), none, (.index (.t 9) (.t 10))⟩, ⟨(some 12), none, (.call (.c (.fn (.func 122) [])) [(.t 11)])⟩, ⟨(some 13), none, (.un .not (.t 12))⟩]) (.cond (.t 13) (.seq (.ops [⟨(some 2), none, (.mv (.c (.t (.bool false))))⟩]) .ret) .skip)))) (.ops [⟨(some 14), none, (.bin .add (.t 6) (.c (.t (.int .i64 1))))⟩, ⟨(some 6), none, (.mv (.t 14))⟩]))))))) (.seq (.ops [⟨(some 2), none, (.mv (.c (.t (.bool true))))⟩]) .ret)))
theorem k_impl_nameBytes : comp Tryd.prog 15 (Tryd.f99.body.getD .skip) = some c_impl_nameBytes := by kernel_rfl

theorem impl_nameBytes (s : List UInt8) (hs : s.length ≤ 1048576) (σ : Store) : ACalls Tryd.prog 99 [.t (.str (s))] σ fun rr σ' => rr = .t (.bool (s.all byteOk)) ∧ σ' = σ := by
  refine acalls_of Tryd.func99 (by decide +kernel) (code := Tryd.f99.body.getD .skip) (n := 15) (c := c_impl_nameBytes) (rs := [(.tmp 2)]) rfl rfl k_impl_nameBytes (by kernel_rfl) (by simp) (fun hσ => ?_)
  have hh : True := trivial
  have fin : ∀ {u : V} {τ : Store}, u = .t (.bool (s.all byteOk)) → u.lt σ.length = true → retV σ.length (fun rr σ' => rr = .t (.bool (s.all byteOk)) ∧ σ' = σ) (σ ++ τ) (some [u]) := fun h h2 => ret_same rfl hσ h2 ⟨h, rfl⟩
  have fin0 : ∀ {u : V}, u = .t (.bool (s.all byteOk)) → retV σ.length (fun rr σ' => rr = .t (.bool (s.all byteOk)) ∧ σ' = σ) σ (some [u]) := fun h => ret_same0 rfl ⟨h, rfl⟩
  simp -implicitDefEqProofs only [c_impl_nameBytes, S0, S1, S2, S3, S4, S5, S6, S7, S8, S9, S10, S11, S12, S13, S14, S15, S16, S17, opv, opvs, eget, env0, setD, lenStr, lenSl, isNilP, isNilS, putAt, if_true, if_false, reduceCtorEq, Nat.reduceLeDiff, Nat.reduceEqDiff, Nat.reduceSub, Nat.reduceMul, Nat.reduceAdd]
  refine loop_p [6, 0, 5] [0, 5] (fun k : Nat => [(6, .t (.int .i64 (k : Nat)))]) (fun k => k ≤ (s).length ∧ ((s).take k).all byteOk = true) (fun k => (s).length - k) 0 (by simp) ⟨Nat.zero_le _, rfl⟩ rfl ?_
  rintro k ⟨hk, hall⟩
  simp -implicitDefEqProofs only [keep, List.length_map, S0, S1, S2, S3, S4, S5, S6, S7, S8, S9, S10, S11, S12, S13, S14, S15, S16, S17, opv, opvs, eget, env0, setD, lenStr, lenSl, isNilP, isNilS, putAt, if_true, if_false, reduceCtorEq, Nat.reduceLeDiff, Nat.reduceEqDiff, Nat.reduceSub, Nat.reduceMul, Nat.reduceAdd]
  refine cond_split (fun h1 => ?_) (fun h1 => ?_)
  · obtain ⟨x, hx, hlt⟩ := at_of h1
    clear h1 hh
    have hh : True := trivial
    simp -implicitDefEqProofs only [hx, nat_nn, Nat.zero_le, List.getElem?_map, Option.map_some, i64_succ (show k < 4611686018427387904 by omega), S0, S1, S2, S3, S4, S5, S6, S7, S8, S9, S10, S11, S12, S13, S14, S15, S16, S17, opv, opvs, eget, env0, setD, lenStr, lenSl, isNilP, isNilS, putAt, if_true, if_false, reduceCtorEq, Nat.reduceLeDiff, Nat.reduceEqDiff, Nat.reduceSub, Nat.reduceMul, Nat.reduceAdd]
    repeat' (first
    | ((with_reducible refine cond_known (fun h => ?_) (fun h => ?_)) <;> (replace hh := And.intro h hh; clear h; simp -implicitDefEqProofs only [hh, cond_t, cond_f, hx, nat_nn, Nat.zero_le, List.getElem?_map, Option.map_some, i64_succ (show k < 4611686018427387904 by omega), S0, S1, S2, S3, S4, S5, S6, S7, S8, S9, S10, S11, S12, S13, S14, S15, S16, S17, opv, opvs, eget, env0, setD, lenStr, lenSl, isNilP, isNilS, putAt, if_true, if_false, reduceCtorEq, Nat.reduceLeDiff, Nat.reduceEqDiff, Nat.reduceSub, Nat.reduceMul, Nat.reduceAdd]))
    | ((with_reducible refine call_pure (impl_nameByte _ _) ?_); simp -implicitDefEqProofs only [hh, cond_t, cond_f, hx, nat_nn, Nat.zero_le, List.getElem?_map, Option.map_some, i64_succ (show k < 4611686018427387904 by omega), S0, S1, S2, S3, S4, S5, S6, S7, S8, S9, S10, S11, S12, S13, S14, S15, S16, S17, opv, opvs, eget, env0, setD, lenStr, lenSl, isNilP, isNilS, putAt, if_true, if_false, reduceCtorEq, Nat.reduceLeDiff, Nat.reduceEqDiff, Nat.reduceSub, Nat.reduceMul, Nat.reduceAdd])
    | (first | ((with_reducible refine fin0 ?_); refine tb ?_; (try simp only [Known] at hh); have hno := all_not (l := (s)) (p := byteOk) hx; grind [nameOk, wi, byteOk, bytB]) | ((with_reducible refine fin ?_ ?_); rotate_left; exact rfl; refine tb ?_; (try simp only [Known] at hh); have hno := all_not (l := (s)) (p := byteOk) hx; grind [nameOk, wi, byteOk, bytB]) | (refine lk_p0 (k + 1) (by simp) (by simp) (by omega) ⟨by omega, all_step hx hall ?_⟩ rfl; (try simp only [Known] at hh); grind [byteOk, bytB]) | (refine lk_p (k + 1) (by simp) (by simp) hσ rfl (by omega) ⟨by omega, all_step hx hall ?_⟩ rfl rfl; (try simp only [Known] at hh); grind [byteOk, bytB]) | (refine lk_pm (k + 1) (Nat.le_refl _) (by simp) hσ rfl rfl (by omega) ⟨by omega, all_step hx hall ?_⟩ (by simp [ltE, keep, eget, V.lt]) rfl; (try simp only [Known] at hh); grind [byteOk, bytB])))
  replace hall := all_len hall ((end_of h1 hk).trans (by rfl))
  clear h1 hk
  simp -implicitDefEqProofs only [S0, S1, S2, S3, S4, S5, S6, S7, S8, S9, S10, S11, S12, S13, S14, S15, S16, S17, opv, opvs, eget, env0, setD, lenStr, lenSl, isNilP, isNilS, putAt, if_true, if_false, reduceCtorEq, Nat.reduceLeDiff, Nat.reduceEqDiff, Nat.reduceSub, Nat.reduceMul, Nat.reduceAdd]
  (first | ((with_reducible refine fin0 ?_); refine tb ?_; (try simp only [Known] at hh); grind) | ((with_reducible refine fin ?_ ?_); rotate_left; exact rfl; refine tb ?_; (try simp only [Known] at hh); grind))
def c_impl_isName : C := (.seq (.ops [⟨(some 2), none, (.mv (.c (.t (.bool false))))⟩]) (.seq (.ops [⟨(some 3), none, (.mv (.t 0))⟩, ⟨(some 4), none, (.len true (.t 3))⟩, ⟨(some 5), none, (.bin .geq (.t 4) (.c (.t (.int .i64 1))))⟩, ⟨(some 6), none, (.mv (.t 5))⟩, ⟨(some 7), (some ⟨6, true⟩), (.mv (.t 0))⟩, ⟨(some 8), (some ⟨6, true⟩), (.len true (.t 7))⟩, ⟨(some 9), (some ⟨6, true⟩), (.bin .leq (.t 8) (.c (.t (.int .i64 16))))⟩, ⟨(some 10), none, (.pick (.t 6) (.t 9) (.c (.t (.bool false))))⟩, ⟨(some 11), none, (.mv (.t 10))⟩, ⟨(some 12), (some ⟨11, true⟩), (.mv (.t 0))⟩, ⟨(some 13), (some ⟨11, true⟩), (.call (.c (.fn (.func 99) [])) [(.t 12)])⟩, ⟨(some 14), none, (.pick (.t 11) (.t 13) (.c (.t (.bool false))))⟩, ⟨(some 2), none, (.mv (.t 14))⟩]) .ret))
theorem k_impl_isName : comp Tryd.prog 15 (Tryd.f86.body.getD .skip) = some c_impl_isName := by kernel_rfl

theorem impl_isName (s : List UInt8) (hs : s.length ≤ 1048576) (σ : Store) : ACalls Tryd.prog 86 [.t (.str (s))] σ fun rr σ' => rr = .t (.bool (nameOk s)) ∧ σ' = σ := by
  refine acalls_of Tryd.func86 (by decide +kernel) (code := Tryd.f86.body.getD .skip) (n := 15) (c := c_impl_isName) (rs := [(.tmp 2)]) rfl rfl k_impl_isName (by kernel_rfl) (by simp) (fun hσ => ?_)
  have hh : True := trivial
  have fin : ∀ {u : V} {τ : Store}, u = .t (.bool (nameOk s)) → u.lt σ.length = true → retV σ.length (fun rr σ' => rr = .t (.bool (nameOk s)) ∧ σ' = σ) (σ ++ τ) (some [u]) := fun h h2 => ret_same rfl hσ h2 ⟨h, rfl⟩
  have fin0 : ∀ {u : V}, u = .t (.bool (nameOk s)) → retV σ.length (fun rr σ' => rr = .t (.bool (nameOk s)) ∧ σ' = σ) σ (some [u]) := fun h => ret_same0 rfl ⟨h, rfl⟩
  simp -implicitDefEqProofs only [c_impl_isName, S0, S1, S2, S3, S4, S5, S6, S7, S8, S9, S10, S11, S12, S13, S14, S15, S16, S17, opv, opvs, eget, env0, setD, lenStr, lenSl, isNilP, isNilS, putAt, if_true, if_false, reduceCtorEq, Nat.reduceLeDiff, Nat.reduceEqDiff, Nat.reduceSub, Nat.reduceMul, Nat.reduceAdd]
  repeat' (first
    | ((with_reducible refine cond_known (fun h => ?_) (fun h => ?_)) <;> (replace hh := And.intro h hh; clear h; simp -implicitDefEqProofs only [hh, cond_t, cond_f, S0, S1, S2, S3, S4, S5, S6, S7, S8, S9, S10, S11, S12, S13, S14, S15, S16, S17, opv, opvs, eget, env0, setD, lenStr, lenSl, isNilP, isNilS, putAt, if_true, if_false, reduceCtorEq, Nat.reduceLeDiff, Nat.reduceEqDiff, Nat.reduceSub, Nat.reduceMul, Nat.reduceAdd]))
    | ((with_reducible refine call_pure (impl_nameBytes s hs _) ?_); simp -implicitDefEqProofs only [hh, cond_t, cond_f, S0, S1, S2, S3, S4, S5, S6, S7, S8, S9, S10, S11, S12, S13, S14, S15, S16, S17, opv, opvs, eget, env0, setD, lenStr, lenSl, isNilP, isNilS, putAt, if_true, if_false, reduceCtorEq, Nat.reduceLeDiff, Nat.reduceEqDiff, Nat.reduceSub, Nat.reduceMul, Nat.reduceAdd])
    | (first | ((with_reducible refine fin0 ?_); refine tb ?_; (try simp only [Known] at hh); grind [nameOk, wi]) | ((with_reducible refine fin ?_ ?_); rotate_left; exact rfl; refine tb ?_; (try simp only [Known] at hh); grind [nameOk, wi])))

def c_spec_l4Begins : C := (.seq (.ops [⟨(some 4), none, (.mv (.c (.t (.bool false))))⟩]) (.seq (.ops [⟨(some 5), none, (.mv (.t 0))⟩, ⟨(some 6), none, (.len true (.t 5))⟩, ⟨(some 7), none, (.mv (.t 1))⟩, ⟨(some 8), none, (.len true (.t 7))⟩, ⟨(some 9), none, (.bin .geq (.t 6) (.t 8))⟩, ⟨(some 10), none, (.mv (.t 9))⟩, ⟨(some 11), (some ⟨10, true⟩), (.mv (.t 0))⟩, ⟨(some 12), (some ⟨10, true⟩), (.mv (.t 1))⟩, ⟨(some 13), (some ⟨10, true⟩), (.len true (.t 12))⟩, ⟨(some 14), (some ⟨10, true⟩), (.sliceStr (.t 11) none (some (.t 13)))⟩, ⟨(some 15), (some ⟨10, true⟩), (.mv (.t 1))⟩, ⟨(some 16), (some ⟨10, true⟩), (.bin .eql (.t 14) (.t 15))⟩, ⟨(some 17), none, (.pick (.t 10) (.t 16) (.c (.t (.bool false))))⟩, ⟨(some 4), none, (.mv (.t 17))⟩]) .ret))
theorem k_spec_l4Begins : comp Tryd.prog 18 (Tryd.f74.body.getD .skip) = some c_spec_l4Begins := by kernel_rfl

theorem spec_l4Begins (s p : List UInt8)  (σ : Store) : ACalls Tryd.prog 74 [.t (.str (s)), .t (.str (p))] σ fun rr σ' => rr = .t (.bool (begs s p)) ∧ σ' = σ := by
  refine acalls_of Tryd.func74 (by decide +kernel) (code := Tryd.f74.body.getD .skip) (n := 18) (c := c_spec_l4Begins) (rs := [(.tmp 4)]) rfl rfl k_spec_l4Begins (by kernel_rfl) (by simp) (fun hσ => ?_)
  have hh : True := trivial
  have fin : ∀ {u : V} {τ : Store}, u = .t (.bool (begs s p)) → u.lt σ.length = true → retV σ.length (fun rr σ' => rr = .t (.bool (begs s p)) ∧ σ' = σ) (σ ++ τ) (some [u]) := fun h h2 => ret_same rfl hσ h2 ⟨h, rfl⟩
  have fin0 : ∀ {u : V}, u = .t (.bool (begs s p)) → retV σ.length (fun rr σ' => rr = .t (.bool (begs s p)) ∧ σ' = σ) σ (some [u]) := fun h => ret_same0 rfl ⟨h, rfl⟩
  by_cases hc : p.length ≤ s.length
  · have h1 : decide ((s.length : Int) ≥ (p.length : Int)) = true := by simp; omega
    have h2 : (p.length : Int) ≤ s.length := by omega
    have h3 : begs s p = (s.take p.length == p) := by simp [begs, hc]
    simp -implicitDefEqProofs only [c_spec_l4Begins, h1, hc, nat_nn, Nat.zero_le, cond_t, cond_f, Int.toNat_natCast, List.drop_zero, S0, S1, S2, S3, S4, S5, S6, S7, S8, S9, S10, S11, S12, S13, S14, S15, S16, S17, opv, opvs, eget, env0, setD, lenStr, lenSl, isNilP, isNilS, putAt, if_true, if_false, reduceCtorEq, Nat.reduceLeDiff, Nat.reduceEqDiff, Nat.reduceSub, Nat.reduceMul, Nat.reduceAdd]
    (first | ((with_reducible refine fin0 ?_); refine tb ?_; (try simp only [Known] at hh); first | (rw [h3]; rfl) | (rw [h3]; done)) | ((with_reducible refine fin ?_ ?_); rotate_left; exact rfl; refine tb ?_; (try simp only [Known] at hh); first | (rw [h3]; rfl) | (rw [h3]; done)))
  · have h1 : decide ((s.length : Int) ≥ (p.length : Int)) = false := by simp; omega
    have h3 : begs s p = false := by simp [begs, hc]
    simp -implicitDefEqProofs only [c_spec_l4Begins, h1, cond_t, cond_f, S0, S1, S2, S3, S4, S5, S6, S7, S8, S9, S10, S11, S12, S13, S14, S15, S16, S17, opv, opvs, eget, env0, setD, lenStr, lenSl, isNilP, isNilS, putAt, if_true, if_false, reduceCtorEq, Nat.reduceLeDiff, Nat.reduceEqDiff, Nat.reduceSub, Nat.reduceMul, Nat.reduceAdd]
    (first | ((with_reducible refine fin0 ?_); refine tb ?_; (try simp only [Known] at hh); exact h3.symm) | ((with_reducible refine fin ?_ ?_); rotate_left; exact rfl; refine tb ?_; (try simp only [Known] at hh); exact h3.symm))

def c_internal_stringslite_HasPrefix : C := (.seq (.ops [⟨(some 4), none, (.mv (.c (.t (.bool false))))⟩]) (.seq (.ops [⟨(some 5), none, (.mv (.t 0))⟩, ⟨(some 6), none, (.len true (.t 5))⟩, ⟨(some 7), none, (.mv (.t 1))⟩, ⟨(some 8), none, (.len true (.t 7))⟩, ⟨(some 9), none, (.bin .geq (.t 6) (.t 8))⟩, ⟨(some 10), none, (.mv (.t 9))⟩, ⟨(some 11), (some ⟨10, true⟩), (.mv (.t 0))⟩, ⟨(some 12), (some ⟨10, true⟩), (.mv (.t 1))⟩, ⟨(some 13), (some ⟨10, true⟩), (.len true (.t 12))⟩, ⟨(some 14), (some ⟨10, true⟩), (.sliceStr (.t 11) none (some (.t 13)))⟩, ⟨(some 15), (some ⟨10, true⟩), (.mv (.t 1))⟩, ⟨(some 16), (some ⟨10, true⟩), (.bin .eql (.t 14) (.t 15))⟩, ⟨(some 17), none, (.pick (.t 10) (.t 16) (.c (.t (.bool false))))⟩, ⟨(some 4), none, (.mv (.t 17))⟩]) .ret))
theorem k_internal_stringslite_HasPrefix : comp Tryd.prog 18 (Tryd.f123.body.getD .skip) = some c_internal_stringslite_HasPrefix := by kernel_rfl

theorem internal_stringslite_HasPrefix (s p : List UInt8)  (σ : Store) : ACalls Tryd.prog 123 [.t (.str (s)), .t (.str (p))] σ fun rr σ' => rr = .t (.bool (begs s p)) ∧ σ' = σ := by
  refine acalls_of Tryd.func123 (by decide +kernel) (code := Tryd.f123.body.getD .skip) (n := 18) (c := c_internal_stringslite_HasPrefix) (rs := [(.tmp 4)]) rfl rfl k_internal_stringslite_HasPrefix (by kernel_rfl) (by simp) (fun hσ => ?_)
  have hh : True := trivial
  have fin : ∀ {u : V} {τ : Store}, u = .t (.bool (begs s p)) → u.lt σ.length = true → retV σ.length (fun rr σ' => rr = .t (.bool (begs s p)) ∧ σ' = σ) (σ ++ τ) (some [u]) := fun h h2 => ret_same rfl hσ h2 ⟨h, rfl⟩
  have fin0 : ∀ {u : V}, u = .t (.bool (begs s p)) → retV σ.length (fun rr σ' => rr = .t (.bool (begs s p)) ∧ σ' = σ) σ (some [u]) := fun h => ret_same0 rfl ⟨h, rfl⟩
  by_cases hc : p.length ≤ s.length
  · have h1 : decide ((s.length : Int) ≥ (p.length : Int)) = true := by simp; omega
    have h2 : (p.length : Int) ≤ s.length := by omega
    have h3 : begs s p = (s.take p.length == p) := by simp [begs, hc]
    simp -implicitDefEqProofs only [c_internal_stringslite_HasPrefix, h1, hc, nat_nn, Nat.zero_le, cond_t, cond_f, Int.toNat_natCast, List.drop_zero, S0, S1, S2, S3, S4, S5, S6, S7, S8, S9, S10, S11, S12, S13, S14, S15, S16, S17, opv, opvs, eget, env0, setD, lenStr, lenSl, isNilP, isNilS, putAt, if_true, if_false, reduceCtorEq, Nat.reduceLeDiff, Nat.reduceEqDiff, Nat.reduceSub, Nat.reduceMul, Nat.reduceAdd]
    (first | ((with_reducible refine fin0 ?_); refine tb ?_; (try simp only [Known] at hh); first | (rw [h3]; rfl) | (rw [h3]; done)) | ((with_reducible refine fin ?_ ?_); rotate_left; exact rfl; refine tb ?_; (try simp only [Known] at hh); first | (rw [h3]; rfl) | (rw [h3]; done)))
  · have h1 : decide ((s.length : Int) ≥ (p.length : Int)) = false := by simp; omega
    have h3 : begs s p = false := by simp [begs, hc]
    simp -implicitDefEqProofs only [c_internal_stringslite_HasPrefix, h1, cond_t, cond_f, S0, S1, S2, S3, S4, S5, S6, S7, S8, S9, S10, S11, S12, S13, S14, S15, S16, S17, opv, opvs, eget, env0, setD, lenStr, lenSl, isNilP, isNilS, putAt, if_true, if_false, reduceCtorEq, Nat.reduceLeDiff, Nat.reduceEqDiff, Nat.reduceSub, Nat.reduceMul, Nat.reduceAdd]
    (first | ((with_reducible refine fin0 ?_); refine tb ?_; (try simp only [Known] at hh); exact h3.symm) | ((with_reducible refine fin ?_ ?_); rotate_left; exact rfl; refine tb ?_; (try simp only [Known] at hh); exact h3.symm))

def c_strings_HasPrefix : C := (.seq (.ops [⟨(some 4), none, (.mv (.c (.t (.bool false))))⟩]) (.seq (.ops [⟨(some 5), none, (.mv (.t 0))⟩, ⟨(some 6), none, (.mv (.t 1))⟩, ⟨(some 7), none, (.call (.c (.fn (.func 123) [])) [(.t 5), (.t 6)])⟩, ⟨(some 4), none, (.mv (.t 7))⟩]) .ret))
theorem k_strings_HasPrefix : comp Tryd.prog 8 (Tryd.f103.body.getD .skip) = some c_strings_HasPrefix := by kernel_rfl

theorem strings_HasPrefix (s p : List UInt8)  (σ : Store) : ACalls Tryd.prog 103 [.t (.str (s)), .t (.str (p))] σ fun rr σ' => rr = .t (.bool (begs s p)) ∧ σ' = σ := by
  refine acalls_of Tryd.func103 (by decide +kernel) (code := Tryd.f103.body.getD .skip) (n := 8) (c := c_strings_HasPrefix) (rs := [(.tmp 4)]) rfl rfl k_strings_HasPrefix (by kernel_rfl) (by simp) (fun hσ => ?_)
  have hh : True := trivial
  have fin : ∀ {u : V} {τ : Store}, u = .t (.bool (begs s p)) → u.lt σ.length = true → retV σ.length (fun rr σ' => rr = .t (.bool (begs s p)) ∧ σ' = σ) (σ ++ τ) (some [u]) := fun h h2 => ret_same rfl hσ h2 ⟨h, rfl⟩
  have fin0 : ∀ {u : V}, u = .t (.bool (begs s p)) → retV σ.length (fun rr σ' => rr = .t (.bool (begs s p)) ∧ σ' = σ) σ (some [u]) := fun h => ret_same0 rfl ⟨h, rfl⟩
  simp -implicitDefEqProofs only [c_strings_HasPrefix, S0, S1, S2, S3, S4, S5, S6, S7, S8, S9, S10, S11, S12, S13, S14, S15, S16, S17, opv, opvs, eget, env0, setD, lenStr, lenSl, isNilP, isNilS, putAt, if_true, if_false, reduceCtorEq, Nat.reduceLeDiff, Nat.reduceEqDiff, Nat.reduceSub, Nat.reduceMul, Nat.reduceAdd]
  repeat' (first
    | ((with_reducible refine cond_known (fun h => ?_) (fun h => ?_)) <;> (replace hh := And.intro h hh; clear h; simp -implicitDefEqProofs only [hh, cond_t, cond_f, S0, S1, S2, S3, S4, S5, S6, S7, S8, S9, S10, S11, S12, S13, S14, S15, S16, S17, opv, opvs, eget, env0, setD, lenStr, lenSl, isNilP, isNilS, putAt, if_true, if_false, reduceCtorEq, Nat.reduceLeDiff, Nat.reduceEqDiff, Nat.reduceSub, Nat.reduceMul, Nat.reduceAdd]))
    | ((with_reducible refine call_pure (internal_stringslite_HasPrefix s p _) ?_); simp -implicitDefEqProofs only [hh, cond_t, cond_f, S0, S1, S2, S3, S4, S5, S6, S7, S8, S9, S10, S11, S12, S13, S14, S15, S16, S17, opv, opvs, eget, env0, setD, lenStr, lenSl, isNilP, isNilS, putAt, if_true, if_false, reduceCtorEq, Nat.reduceLeDiff, Nat.reduceEqDiff, Nat.reduceSub, Nat.reduceMul, Nat.reduceAdd])
    | (first | ((with_reducible refine fin0 ?_); refine tb ?_; (try simp only [Known] at hh); rfl) | ((with_reducible refine fin ?_ ?_); rotate_left; exact rfl; refine tb ?_; (try simp only [Known] at hh); rfl)))

end Go.Proofs.YtcjchimenfadkaaDoor.W
