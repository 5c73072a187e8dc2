/- A word written, by the reference and by the program. Conditions: none. -/
import Derived.Test.YtnnnemgbgilfaaaDoorSheetCutM
import Derived.Test.YtnnnemgbgilfaaaDoorAb4
import Derived.Test.YtnnnemgbgilfaaaDoorProg
set_option linter.unusedSimpArgs false
set_option linter.unusedVariables false
set_option linter.defProp false
open Go Go.Ab
set_option maxHeartbeats 2000000
namespace Go.Proofs.YtnnnemgbgilfaaaDoor.W
def c_spec_l37Bare : C := (.seq (.ops [⟨(some 2), none, (.mv (.c (.t (.bool false))))⟩]) (.seq (.ops [⟨(some 3), none, (.mv (.t 0))⟩, ⟨(some 4), none, (.bin .geq (.t 3) (.c (.t (.int .u8 33))))⟩, ⟨(some 5), none, (.mv (.t 4))⟩, ⟨(some 6), (some ⟨5, true⟩), (.mv (.t 0))⟩, ⟨(some 7), (some ⟨5, true⟩), (.bin .leq (.t 6) (.c (.t (.int .u8 126))))⟩, ⟨(some 8), none, (.pick (.t 5) (.t 7) (.c (.t (.bool false))))⟩, ⟨(some 9), none, (.mv (.t 8))⟩, ⟨(some 10), (some ⟨9, true⟩), (.mv (.t 0))⟩, ⟨(some 11), (some ⟨9, true⟩), (.bin .neq (.t 10) (.c (.t (.int .u8 34))))⟩, ⟨(some 12), none, (.pick (.t 9) (.t 11) (.c (.t (.bool false))))⟩, ⟨(some 13), none, (.mv (.t 12))⟩, ⟨(some 14), (some ⟨13, true⟩), (.mv (.t 0))⟩, ⟨(some 15), (some ⟨13, true⟩), (.bin .neq (.t 14) (.c (.t (.int .u8 35))))⟩, ⟨(some 16), none, (.pick (.t 13) (.t 15) (.c (.t (.bool false))))⟩, ⟨(some 17), none, (.mv (.t 16))⟩, ⟨(some 18), (some ⟨17, true⟩), (.mv (.t 0))⟩, ⟨(some 19), (some ⟨17, true⟩), (.bin .neq (.t 18) (.c (.t (.int .u8 92))))⟩, ⟨(some 20), none, (.pick (.t 17) (.t 19) (.c (.t (.bool false))))⟩, ⟨(some 2), none, (.mv (.t 20))⟩]) .ret))
theorem k_spec_l37Bare : comp Tryd.prog 21 (Tryd.f92.body.getD .skip) = some c_spec_l37Bare := by kernel_rfl

theorem spec_l37Bare (c : UInt8)  (σ : Store) : ACalls Tryd.prog 92 [.t (.int .u8 (c.toNat : Int))] σ fun rr σ' => rr = .t (.bool (bareB c)) ∧ σ' = σ := by
  refine acalls_of Tryd.func92 (by decide +kernel) (code := Tryd.f92.body.getD .skip) (n := 21) (c := c_spec_l37Bare) (rs := [(.tmp 2)]) rfl rfl k_spec_l37Bare (by kernel_rfl) (by simp) (fun hσ => ?_)
  have hh : True := trivial
  have fin : ∀ {u : V} {τ : Store}, u = .t (.bool (bareB c)) → u.lt σ.length = true → retV σ.length (fun rr σ' => rr = .t (.bool (bareB c)) ∧ σ' = σ) (σ ++ τ) (some [u]) := fun h h2 => ret_same rfl hσ h2 ⟨h, rfl⟩
  have fin0 : ∀ {u : V}, u = .t (.bool (bareB c)) → retV σ.length (fun rr σ' => rr = .t (.bool (bareB c)) ∧ σ' = σ) σ (some [u]) := fun h => ret_same0 rfl ⟨h, rfl⟩
  simp -implicitDefEqProofs only [c_spec_l37Bare, S0, S1, S2, S3, S4, S5, S6, S7, S8, S9, S10, S11, S12, S13, S14, S15, S16, S17, opv, opvs, eget, env0, setD, lenStr, lenSl, isNilP, isNilS, putAt, if_true, if_false, reduceCtorEq, Nat.reduceLeDiff, Nat.reduceEqDiff, Nat.reduceSub, Nat.reduceMul, Nat.reduceAdd]
  repeat' (first
    | ((with_reducible refine cond_known (fun h => ?_) (fun h => ?_)) <;> (replace hh := And.intro h hh; clear h; simp -implicitDefEqProofs only [hh, cond_t, cond_f, S0, S1, S2, S3, S4, S5, S6, S7, S8, S9, S10, S11, S12, S13, S14, S15, S16, S17, opv, opvs, eget, env0, setD, lenStr, lenSl, isNilP, isNilS, putAt, if_true, if_false, reduceCtorEq, Nat.reduceLeDiff, Nat.reduceEqDiff, Nat.reduceSub, Nat.reduceMul, Nat.reduceAdd]))
    | (first | ((with_reducible refine fin0 ?_); refine tb ?_; (try simp only [Known] at hh); grind [bareB]) | ((with_reducible refine fin ?_ ?_); rotate_left; exact rfl; refine tb ?_; (try simp only [Known] at hh); grind [bareB])))

def c_impl_bareByte : C := (.seq (.ops [⟨(some 2), none, (.mv (.c (.t (.bool false))))⟩]) (.seq (.ops [⟨(some 3), none, (.mv (.t 0))⟩, ⟨(some 4), none, (.bin .geq (.t 3) (.c (.t (.int .u8 33))))⟩, ⟨(some 5), none, (.mv (.t 4))⟩, ⟨(some 6), (some ⟨5, true⟩), (.mv (.t 0))⟩, ⟨(some 7), (some ⟨5, true⟩), (.bin .leq (.t 6) (.c (.t (.int .u8 126))))⟩, ⟨(some 8), none, (.pick (.t 5) (.t 7) (.c (.t (.bool false))))⟩, ⟨(some 9), none, (.mv (.t 8))⟩, ⟨(some 10), (some ⟨9, true⟩), (.mv (.t 0))⟩, ⟨(some 11), (some ⟨9, true⟩), (.bin .neq (.t 10) (.c (.t (.int .u8 34))))⟩, ⟨(some 12), none, (.pick (.t 9) (.t 11) (.c (.t (.bool false))))⟩, ⟨(some 13), none, (.mv (.t 12))⟩, ⟨(some 14), (some ⟨13, true⟩), (.mv (.t 0))⟩, ⟨(some 15), (some ⟨13, true⟩), (.bin .neq (.t 14) (.c (.t (.int .u8 35))))⟩, ⟨(some 16), none, (.pick (.t 13) (.t 15) (.c (.t (.bool false))))⟩, ⟨(some 17), none, (.mv (.t 16))⟩, ⟨(some 18), (some ⟨17, true⟩), (.mv (.t 0))⟩, ⟨(some 19), (some ⟨17, true⟩), (.bin .neq (.t 18) (.c (.t (.int .u8 92))))⟩, ⟨(some 20), none, (.pick (.t 17) (.t 19) (.c (.t (.bool false))))⟩, ⟨(some 2), none, (.mv (.t 20))⟩]) .ret))
theorem k_impl_bareByte : comp Tryd.prog 21 (Tryd.f95.body.getD .skip) = some c_impl_bareByte := by kernel_rfl

theorem impl_bareByte (c : UInt8)  (σ : Store) : ACalls Tryd.prog 95 [.t (.int .u8 (c.toNat : Int))] σ fun rr σ' => rr = .t (.bool (bareB c)) ∧ σ' = σ := by
  refine acalls_of Tryd.func95 (by decide +kernel) (code := Tryd.f95.body.getD .skip) (n := 21) (c := c_impl_bareByte) (rs := [(.tmp 2)]) rfl rfl k_impl_bareByte (by kernel_rfl) (by simp) (fun hσ => ?_)
  have hh : True := trivial
  have fin : ∀ {u : V} {τ : Store}, u = .t (.bool (bareB c)) → u.lt σ.length = true → retV σ.length (fun rr σ' => rr = .t (.bool (bareB c)) ∧ σ' = σ) (σ ++ τ) (some [u]) := fun h h2 => ret_same rfl hσ h2 ⟨h, rfl⟩
  have fin0 : ∀ {u : V}, u = .t (.bool (bareB c)) → retV σ.length (fun rr σ' => rr = .t (.bool (bareB c)) ∧ σ' = σ) σ (some [u]) := fun h => ret_same0 rfl ⟨h, rfl⟩
  simp -implicitDefEqProofs only [c_impl_bareByte, S0, S1, S2, S3, S4, S5, S6, S7, S8, S9, S10, S11, S12, S13, S14, S15, S16, S17, opv, opvs, eget, env0, setD, lenStr, lenSl, isNilP, isNilS, putAt, if_true, if_false, reduceCtorEq, Nat.reduceLeDiff, Nat.reduceEqDiff, Nat.reduceSub, Nat.reduceMul, Nat.reduceAdd]
  repeat' (first
    | ((with_reducible refine cond_known (fun h => ?_) (fun h => ?_)) <;> (replace hh := And.intro h hh; clear h; simp -implicitDefEqProofs only [hh, cond_t, cond_f, S0, S1, S2, S3, S4, S5, S6, S7, S8, S9, S10, S11, S12, S13, S14, S15, S16, S17, opv, opvs, eget, env0, setD, lenStr, lenSl, isNilP, isNilS, putAt, if_true, if_false, reduceCtorEq, Nat.reduceLeDiff, Nat.reduceEqDiff, Nat.reduceSub, Nat.reduceMul, Nat.reduceAdd]))
    | (first | ((with_reducible refine fin0 ?_); refine tb ?_; (try simp only [Known] at hh); grind [bareB]) | ((with_reducible refine fin ?_ ?_); rotate_left; exact rfl; refine tb ?_; (try simp only [Known] at hh); grind [bareB])))

def c_impl_selfByte : C := (.seq (.ops [⟨(some 2), none, (.mv (.c (.t (.bool false))))⟩]) (.seq (.ops [⟨(some 3), none, (.mv (.t 0))⟩, ⟨(some 4), none, (.bin .geq (.t 3) (.c (.t (.int .u8 32))))⟩, ⟨(some 5), none, (.mv (.t 4))⟩, ⟨(some 6), (some ⟨5, true⟩), (.mv (.t 0))⟩, ⟨(some 7), (some ⟨5, true⟩), (.bin .leq (.t 6) (.c (.t (.int .u8 126))))⟩, ⟨(some 8), none, (.pick (.t 5) (.t 7) (.c (.t (.bool false))))⟩, ⟨(some 9), none, (.mv (.t 8))⟩, ⟨(some 10), (some ⟨9, true⟩), (.mv (.t 0))⟩, ⟨(some 11), (some ⟨9, true⟩), (.bin .neq (.t 10) (.c (.t (.int .u8 34))))⟩, ⟨(some 12), none, (.pick (.t 9) (.t 11) (.c (.t (.bool false))))⟩, ⟨(some 13), none, (.mv (.t 12))⟩, ⟨(some 14), (some ⟨13, true⟩), (.mv (.t 0))⟩, ⟨(some 15), (some ⟨13, true⟩), (.bin .neq (.t 14) (.c (.t (.int .u8 92))))⟩, ⟨(some 16), none, (.pick (.t 13) (.t 15) (.c (.t (.bool false))))⟩, ⟨(some 2), none, (.mv (.t 16))⟩]) .ret))
theorem k_impl_selfByte : comp Tryd.prog 17 (Tryd.f96.body.getD .skip) = some c_impl_selfByte := by kernel_rfl

theorem impl_selfByte (c : UInt8)  (σ : Store) : ACalls Tryd.prog 96 [.t (.int .u8 (c.toNat : Int))] σ fun rr σ' => rr = .t (.bool (selfB c)) ∧ σ' = σ := by
  refine acalls_of Tryd.func96 (by decide +kernel) (code := Tryd.f96.body.getD .skip) (n := 17) (c := c_impl_selfByte) (rs := [(.tmp 2)]) rfl rfl k_impl_selfByte (by kernel_rfl) (by simp) (fun hσ => ?_)
  have hh : True := trivial
  have fin : ∀ {u : V} {τ : Store}, u = .t (.bool (selfB c)) → u.lt σ.length = true → retV σ.length (fun rr σ' => rr = .t (.bool (selfB c)) ∧ σ' = σ) (σ ++ τ) (some [u]) := fun h h2 => ret_same rfl hσ h2 ⟨h, rfl⟩
  have fin0 : ∀ {u : V}, u = .t (.bool (selfB c)) → retV σ.length (fun rr σ' => rr = .t (.bool (selfB c)) ∧ σ' = σ) σ (some [u]) := fun h => ret_same0 rfl ⟨h, rfl⟩
  simp -implicitDefEqProofs only [c_impl_selfByte, S0, S1, S2, S3, S4, S5, S6, S7, S8, S9, S10, S11, S12, S13, S14, S15, S16, S17, opv, opvs, eget, env0, setD, lenStr, lenSl, isNilP, isNilS, putAt, if_true, if_false, reduceCtorEq, Nat.reduceLeDiff, Nat.reduceEqDiff, Nat.reduceSub, Nat.reduceMul, Nat.reduceAdd]
  repeat' (first
    | ((with_reducible refine cond_known (fun h => ?_) (fun h => ?_)) <;> (replace hh := And.intro h hh; clear h; simp -implicitDefEqProofs only [hh, cond_t, cond_f, S0, S1, S2, S3, S4, S5, S6, S7, S8, S9, S10, S11, S12, S13, S14, S15, S16, S17, opv, opvs, eget, env0, setD, lenStr, lenSl, isNilP, isNilS, putAt, if_true, if_false, reduceCtorEq, Nat.reduceLeDiff, Nat.reduceEqDiff, Nat.reduceSub, Nat.reduceMul, Nat.reduceAdd]))
    | (first | ((with_reducible refine fin0 ?_); refine tb ?_; (try simp only [Known] at hh); grind [selfB]) | ((with_reducible refine fin ?_ ?_); rotate_left; exact rfl; refine tb ?_; (try simp only [Known] at hh); grind [selfB])))

theorem quo16 (c : UInt8) : IntKind.u8.wrap ((c.toNat : Int).tdiv 16) = ((c.toNat / 16 : Nat) : Int) := by
  have h : ∀ n : Fin 256, IntKind.u8.wrap (((UInt8.ofNat n.val).toNat : Int).tdiv 16) = (((UInt8.ofNat n.val).toNat / 16 : Nat) : Int) := by decide +kernel
  simpa using h ⟨c.toNat, c.toNat_lt⟩
theorem rem16 (c : UInt8) : ((c.toNat : Int).tmod 16) = ((c.toNat % 16 : Nat) : Int) := rfl
theorem shr4 (c : UInt8) : (c.toNat : Int).fdiv (2 ^ (min (4 : Int).toNat IntKind.u8.bits)) = ((c.toNat / 16 : Nat) : Int) := by
  have h : ∀ n : Fin 256, ((UInt8.ofNat n.val).toNat : Int).fdiv (2 ^ (min (4 : Int).toNat IntKind.u8.bits)) = (((UInt8.ofNat n.val).toNat / 16 : Nat) : Int) := by decide +kernel
  simpa using h ⟨c.toNat, c.toNat_lt⟩
theorem and15 (c : UInt8) : bits .and .u8 (c.toNat : Int) 15 = ((c.toNat % 16 : Nat) : Int) := by
  have h : ∀ n : Fin 256, bits .and .u8 ((UInt8.ofNat n.val).toNat : Int) 15 = (((UInt8.ofNat n.val).toNat % 16 : Nat) : Int) := by decide +kernel
  simpa using h ⟨c.toNat, c.toNat_lt⟩
theorem hex_at {n : Nat} (h : n < 16) : hexS[n]? = some (hexD n) := by
  have hl : hexS.length = 16 := rfl
  unfold hexD
  rw [List.getElem?_eq_getElem (by omega)]
  rfl
theorem enc1_yes {c : UInt8} (h : selfB c = true) : enc1 c = [c] := by rw [enc1, if_pos h]
theorem enc1_no {c : UInt8} (h : selfB c = false) : enc1 c = [92, hexD (c.toNat / 16), hexD (c.toNat % 16)] := by rw [enc1, h]; rfl
theorem gt_len (w : List UInt8) : decide (((w.length : Nat) : Int) > 0) = !(w == []) := by cases w <;> simp

def c_spec_SheetWord : C := (.seq (.ops [⟨(some 2), none, (.mv (.c (.t (.str []))))⟩]) (.seq (.ops [⟨(some 8), none, (.mv (.t 0))⟩, ⟨(some 9), none, (.len true (.t 8))⟩, ⟨(some 10), none, (.bin .gtr (.t 9) (.c (.t (.int .i64 0))))⟩, ⟨(some 3), none, (.mv (.t 10))⟩]) (.seq (.seq (.ops [⟨(some 4), none, (.mv (.c (.t (.int .i64 0))))⟩]) (.block 0 (.loop (.seq (.seq (.ops [⟨(some 11), none, (.mv (.t 4))⟩, ⟨(some 12), none, (.mv (.t 0))⟩, ⟨(some 13), none, (.len true (.t 12))⟩, ⟨(some 14), none, (.bin .lss (.t 11) (.t 13))⟩]) (.cond (.t 14) .skip (.exit 0))) (.seq (.block 1 (.ops [⟨(some 17), none, (.mv (.t 3))⟩, ⟨(some 18), none, (.mv (.t 17))⟩, ⟨(some 19), (some ⟨18, true⟩), (.mv (.t 0))⟩, ⟨(some 20), (some ⟨18, true⟩), (.mv (.t 4))⟩, ⟨(some 21), (some ⟨18, true⟩), (.index (.t 19) (.t 20))⟩, ⟨(some 22), (some ⟨18, true⟩), (.call (.c (.fn (.func 92) [])) [(.t 21)])⟩, ⟨(some 23), none, (.pick (.t 18) (.t 22) (.c (.t (.bool false))))⟩, ⟨(some 3), none, (.mv (.t 23))⟩])) (.ops [⟨(some 15), none, (.mv (.t 4))⟩, ⟨(some 16), none, (.bin .add (.t 15) (.c (.t (.int .i64 1))))⟩, ⟨(some 4), none, (.mv (.t 16))⟩])))))) (.seq (.seq (.ops [⟨(some 24), none, (.mv (.t 3))⟩]) (.cond (.t 24) (.seq (.ops [⟨(some 25), none, (.mv (.t 0))⟩, ⟨(some 2), none, (.mv (.t 25))⟩]) .ret) .skip)) (.seq (.ops [⟨(some 26), none, (.lit none 1 1 [(.t (.int .u8 0))] [⟨0, (.c (.t (.int .u8 34)))⟩])⟩, ⟨(some 5), none, (.mv (.t 26))⟩]) (.seq (.ops [⟨(some 6), none, (.mv (.c (.t (.str [48, 49, 50, 51, 52, 53, 54, 55, 56, 57, 97, 98, 99, 100, 101, 102]))))⟩]) (.seq (.seq (.ops [⟨(some 7), none, (.mv (.c (.t (.int .i64 0))))⟩]) (.block 2 (.loop (.seq (.seq (.ops [⟨(some 27), none, (.mv (.t 7))⟩, ⟨(some 28), none, (.mv (.t 0))⟩, ⟨(some 29), none, (.len true (.t 28))⟩, ⟨(some 30), none, (.bin .lss (.t 27) (.t 29))⟩]) (.cond (.t 30) .skip (.exit 2))) (.seq (.block 3 (.seq (.ops [⟨(some 33), none, (.mv (.t 0))⟩, ⟨(some 34), none, (.mv (.t 7))⟩, ⟨(some 35), none, (.index (.t 33) (.t 34))⟩, ⟨(some 36), none, (.bin .geq (.t 35) (.c (.t (.int .u8 32))))⟩, ⟨(some 37), none, (.mv (.t 36))⟩, ⟨(some 38), (some ⟨37, true⟩), (.mv (.t 0))⟩, ⟨(some 39), (some ⟨37, true⟩), (.mv (.t 7))⟩, ⟨(some 40), (some ⟨37, true⟩), (.index (.t 38) (.t 39))⟩, ⟨(some 41), (some ⟨37, true⟩), (.bin .leq (.t 40) (.c (.t (.int .u8 126))))⟩, ⟨(some 42), none, (.pick (.t 37) (.t 41) (.c (.t (.bool false))))⟩, ⟨(some 43), none, (.mv (.t 42))⟩, ⟨(some 44), (some ⟨43, true⟩), (.mv (.t 0))⟩, ⟨(some 45), (some ⟨43, true⟩), (.mv (.t 7))⟩, ⟨(some 46), (some ⟨43, true⟩), (.index (.t 44) (.t 45))⟩, ⟨(some 47), (some ⟨43, true⟩), (.bin .neq (.t 46) (.c (.t (.int .u8 34))))⟩, ⟨(some 48), none, (.pick (.t 43) (.t 47) (.c (.t (.bool false))))⟩, ⟨(some 49), none, (.mv (.t 48))⟩, ⟨(some 50), (some ⟨49, true⟩), (.mv (.t 0))⟩, ⟨(some 51), (some ⟨49, true⟩), (.mv (.t 7))⟩, ⟨(some 52), (some ⟨49, true⟩), (.index (.t 50) (.t 51))⟩, ⟨(some 53), (some ⟨49, true⟩), (.bin .neq (.t 52) (.c (.t (.int .u8 92))))⟩, ⟨(some 54), none, (.pick (.t 49) (.t 53) (.c (.t (.bool false))))⟩]) (.cond (.t 54) (.ops [⟨(some 55), none, (.mv (.t 5))⟩, ⟨(some 56), none, (.mv (.t 0))⟩, ⟨(some 57), none, (.mv (.t 7))⟩, ⟨(some 58), none, (.index (.t 56) (.t 57))⟩, ⟨(some 59), none, (.lit none 1 1 [(.t (.int .u8 0))] [⟨0, (.t 58)⟩])⟩, ⟨(some 60), none, (.append 1 1 (.t 55) (.t 59))⟩, ⟨(some 5), none, (.mv (.t 60))⟩]) (.drawn [(.mk 0 false ⟨(some 61), none, (.mv (.t 5))⟩ []), (.mk 1 false ⟨(some 62), none, (.mv (.t 6))⟩ []), (.mk 2 false ⟨(some 63), none, (.mv (.t 0))⟩ []), (.mk 3 false ⟨(some 64), none, (.mv (.t 7))⟩ []), (.mk 4 false ⟨(some 65), none, (.index (.t 63) (.t 64))⟩ []), (.mk 5 false ⟨(some 66), none, (.bin .quo (.t 65) (.c (.t (.int .u8 16))))⟩ []), (.mk 6 false ⟨(some 67), none, (.index (.t 62) (.t 66))⟩ []), (.mk 7 false ⟨(some 68), none, (.mv (.t 6))⟩ []), (.mk 8 false ⟨(some 69), none, (.mv (.t 0))⟩ []), (.mk 9 false ⟨(some 70), none, (.mv (.t 7))⟩ []), (.mk 10 false ⟨(some 71), none, (.index (.t 69) (.t 70))⟩ []), (.mk 11 false ⟨(some 72), none, (.bin .rem (.t 71) (.c (.t (.int .u8 16))))⟩ []), (.mk 12 false ⟨(some 73), none, (.index (.t 68) (.t 72))⟩ []), (.mk 13 false ⟨(some 74), none, (.lit (some false) 1 3 [(.t (.int .u8 0))] [⟨0, (.c (.t (.int .u8 92)))⟩, ⟨1, (.t 67)⟩, ⟨2, (.t 73)⟩])⟩ []), (.mk 14 false ⟨(some 75), none, (.append 1 1 (.t 61) (.t 74))⟩ []), (.mk 15 true ⟨(some 5), none, (.mv (.t 75))⟩ [])])))) (.ops [⟨(some 31), none, (.mv (.t 7))⟩, ⟨(some 32), none, (.bin .add (.t 31) (.c (.t (.int .i64 1))))⟩, ⟨(some 7), none, (.mv (.t 32))⟩])))))) (.seq (.ops [⟨(some 76), none, (.mv (.t 5))⟩, ⟨(some 77), none, (.lit none 1 1 [(.t (.int .u8 0))] [⟨0, (.c (.t (.int .u8 34)))⟩])⟩, ⟨(some 78), none, (.append 1 1 (.t 76) (.t 77))⟩, ⟨(some 79), none, (.bytesStr (.t 78))⟩, ⟨(some 2), none, (.mv (.t 79))⟩]) .ret))))))))
theorem k_spec_SheetWord : comp Tryd.prog 80 (Tryd.f76.body.getD .skip) = some c_spec_SheetWord := by kernel_rfl

theorem spec_SheetWord0 (w : List UInt8) (hw : w.length ≤ 1048576)  (σ : Store) : ACalls Tryd.prog 76 [.t (.str (w))] σ fun rr σ' => rr = .t (.str (encW w)) ∧ σ' = σ := by
  refine acalls_of Tryd.func76 (by decide +kernel) (code := Tryd.f76.body.getD .skip) (n := 80) (c := c_spec_SheetWord) (rs := [(.tmp 2)]) rfl rfl k_spec_SheetWord (by kernel_rfl) (by simp) (fun hσ => ?_)
  have hh : True := trivial
  have fin : ∀ {u : V} {τ : Store}, u = .t (.str (encW w)) → u.lt σ.length = true → retV σ.length (fun rr σ' => rr = .t (.str (encW w)) ∧ σ' = σ) (σ ++ τ) (some [u]) := fun h h2 => ret_same rfl hσ h2 ⟨h, rfl⟩
  have fin0 : ∀ {u : V}, u = .t (.str (encW w)) → retV σ.length (fun rr σ' => rr = .t (.str (encW w)) ∧ σ' = σ) σ (some [u]) := fun h => ret_same0 rfl ⟨h, rfl⟩
  simp -implicitDefEqProofs only [c_spec_SheetWord, S0, S1, S2, S3, S4, S5, S6, S7, S8, S9, S10, S11, S12, S13, S14, S15, S16, S17, opv, opvs, eget, env0, setD, lenStr, lenSl, isNilP, isNilS, putAt, if_true, if_false, reduceCtorEq, Nat.reduceLeDiff, Nat.reduceEqDiff, Nat.reduceSub, Nat.reduceMul, Nat.reduceAdd]
  refine loop_p [3, 4, 0] [0] (fun k : Nat => [(3, .t (.bool (!(w == []) && (w.take k).all bareB))), (4, .t (.int .i64 (k : Nat)))]) (fun k => k ≤ w.length) (fun k => w.length - k) 0 (by simp) (Nat.zero_le _) (by simp only [keep, eget, reduceCtorEq, Nat.reduceEqDiff, if_true, if_false, List.take_zero, List.all_nil, Bool.and_true, List.append_nil, List.cons_append, List.nil_append, gt_len]; rfl) ?_
  rintro k hk
  simp -implicitDefEqProofs only [keep, S0, S1, S2, S3, S4, S5, S6, S7, S8, S9, S10, S11, S12, S13, S14, S15, S16, S17, opv, opvs, eget, env0, setD, lenStr, lenSl, isNilP, isNilS, putAt, if_true, if_false, reduceCtorEq, Nat.reduceLeDiff, Nat.reduceEqDiff, Nat.reduceSub, Nat.reduceMul, Nat.reduceAdd]
  refine cond_split (fun h1 => ?_) (fun h1 => ?_)
  · obtain ⟨x, hx, hlt⟩ := at_of h1
    have more := i64_succ (show k < 4611686018427387904 by omega)
    have hst : (w.take (k + 1)).all bareB = ((w.take k).all bareB && bareB x) := by rw [take_of hx, List.all_append]; simp
    clear h1 hh
    have hh : True := trivial
    simp -implicitDefEqProofs only [hx, nat_nn, Nat.zero_le, more, S0, S1, S2, S3, S4, S5, S6, S7, S8, S9, S10, S11, S12, S13, S14, S15, S16, S17, opv, opvs, eget, env0, setD, lenStr, lenSl, isNilP, isNilS, putAt, if_true, if_false, reduceCtorEq, Nat.reduceLeDiff, Nat.reduceEqDiff, Nat.reduceSub, Nat.reduceMul, Nat.reduceAdd]
    rcases hb : (!(w == []) && (w.take k).all bareB) with _ | _
    · have hb2 : (!(w == []) && (w.take (k + 1)).all bareB) = false := by rw [hst, ← Bool.and_assoc, hb]; rfl
      simp -implicitDefEqProofs only [hx, nat_nn, Nat.zero_le, more, hb, cond_t, cond_f, S0, S1, S2, S3, S4, S5, S6, S7, S8, S9, S10, S11, S12, S13, S14, S15, S16, S17, opv, opvs, eget, env0, setD, lenStr, lenSl, isNilP, isNilS, putAt, if_true, if_false, reduceCtorEq, Nat.reduceLeDiff, Nat.reduceEqDiff, Nat.reduceSub, Nat.reduceMul, Nat.reduceAdd]
      exact lk_p0 (k + 1) (by simp) (by simp) (by omega) (by omega) (by simp only [keep, eget, reduceCtorEq, Nat.reduceEqDiff, if_true, if_false, hb2, List.cons_append, List.nil_append])
    · have hb2 : (!(w == []) && (w.take (k + 1)).all bareB) = bareB x := by rw [hst, ← Bool.and_assoc, hb]; rfl
      simp -implicitDefEqProofs only [hx, nat_nn, Nat.zero_le, more, hb, cond_t, cond_f, S0, S1, S2, S3, S4, S5, S6, S7, S8, S9, S10, S11, S12, S13, S14, S15, S16, S17, opv, opvs, eget, env0, setD, lenStr, lenSl, isNilP, isNilS, putAt, if_true, if_false, reduceCtorEq, Nat.reduceLeDiff, Nat.reduceEqDiff, Nat.reduceSub, Nat.reduceMul, Nat.reduceAdd]
      refine call_pure (spec_l37Bare x _) ?_
      simp -implicitDefEqProofs only [hx, nat_nn, Nat.zero_le, more, hb, cond_t, cond_f, S0, S1, S2, S3, S4, S5, S6, S7, S8, S9, S10, S11, S12, S13, S14, S15, S16, S17, opv, opvs, eget, env0, setD, lenStr, lenSl, isNilP, isNilS, putAt, if_true, if_false, reduceCtorEq, Nat.reduceLeDiff, Nat.reduceEqDiff, Nat.reduceSub, Nat.reduceMul, Nat.reduceAdd]
      exact lk_p0 (k + 1) (by simp) (by simp) (by omega) (by omega) (by simp only [keep, eget, reduceCtorEq, Nat.reduceEqDiff, if_true, if_false, hb2, List.cons_append, List.nil_append])
  have hkk := end_of h1 hk
  subst hkk
  clear h1 hk
  simp -implicitDefEqProofs only [List.take_length, S0, S1, S2, S3, S4, S5, S6, S7, S8, S9, S10, S11, S12, S13, S14, S15, S16, S17, opv, opvs, eget, env0, setD, lenStr, lenSl, isNilP, isNilS, putAt, if_true, if_false, reduceCtorEq, Nat.reduceLeDiff, Nat.reduceEqDiff, Nat.reduceSub, Nat.reduceMul, Nat.reduceAdd]
  rcases hb : (!(w == []) && w.all bareB) with _ | _
  rotate_left
  · simp -implicitDefEqProofs only [hb, cond_t, cond_f, S0, S1, S2, S3, S4, S5, S6, S7, S8, S9, S10, S11, S12, S13, S14, S15, S16, S17, opv, opvs, eget, env0, setD, lenStr, lenSl, isNilP, isNilS, putAt, if_true, if_false, reduceCtorEq, Nat.reduceLeDiff, Nat.reduceEqDiff, Nat.reduceSub, Nat.reduceMul, Nat.reduceAdd]
    exact fin0 (by rw [encW, hb]; rfl)
  have hen : encW w = 34 :: (w.flatMap enc1 ++ [34]) := by rw [encW, hb]; rfl
  have c1 : 0 < 1 ∧ 0 < 3 ∧ 1 < 3 ∧ 2 < 3 := by omega
  simp -implicitDefEqProofs only [hb, cond_t, cond_f, c1, S0, S1, S2, S3, S4, S5, S6, S7, S8, S9, S10, S11, S12, S13, S14, S15, S16, S17, opv, opvs, eget, env0, setD, lenStr, lenSl, isNilP, isNilS, putAt, if_true, if_false, reduceCtorEq, Nat.reduceLeDiff, Nat.reduceEqDiff, Nat.reduceSub, Nat.reduceMul, Nat.reduceAdd]
  refine lit_own ?_
  simp -implicitDefEqProofs only [S0, S1, S2, S3, S4, S5, S6, S7, S8, S9, S10, S11, S12, S13, S14, S15, S16, S17, opv, opvs, eget, env0, setD, lenStr, lenSl, isNilP, isNilS, putAt, if_true, if_false, reduceCtorEq, Nat.reduceLeDiff, Nat.reduceEqDiff, Nat.reduceSub, Nat.reduceMul, Nat.reduceAdd]
  have h0 : OFl σ 1 (byteT [34]) (.sl σ.length 1 0 1) (σ ++ [.slc 1 [[.t (.int .u8 34)]]]) [σ.length] := OFl.flatObj (by omega) (byteT_flat _) rfl
  refine loop_g [5, 7, 0, 6] [0, 6] (fun g : Ga => [(5, g.v), (7, .t (.int .i64 (g.k : Nat)))]) (fun g => g.s) (fun g => g.k ≤ w.length ∧ OFl σ 1 (byteT (34 :: (w.take g.k).flatMap enc1)) g.v g.s g.is) (fun g => w.length - g.k) ⟨0, .sl σ.length 1 0 1, σ ++ [.slc 1 [[.t (.int .u8 34)]]], [σ.length]⟩ (by simp) ⟨Nat.zero_le _, by simpa using h0⟩ rfl rfl ?_
  rintro ⟨k, v, s, is⟩ ⟨hk, hof⟩
  simp only at hk hof
  have hbl : σ.length ≤ s.length := hof.le
  simp -implicitDefEqProofs only [keep, S0, S1, S2, S3, S4, S5, S6, S7, S8, S9, S10, S11, S12, S13, S14, S15, S16, S17, opv, opvs, eget, env0, setD, lenStr, lenSl, isNilP, isNilS, putAt, if_true, if_false, reduceCtorEq, Nat.reduceLeDiff, Nat.reduceEqDiff, Nat.reduceSub, Nat.reduceMul, Nat.reduceAdd]
  have hlen : ((w.take k).flatMap enc1).length ≤ 3 * k := by
    have : ∀ l : List UInt8, (l.flatMap enc1).length ≤ 3 * l.length := by
      intro l
      induction l with
      | nil => simp
      | cons a l ih =>
        have : (enc1 a).length ≤ 3 := by unfold enc1; split <;> simp
        rw [List.flatMap_cons, List.length_append, List.length_cons]
        omega
    have h2 := this (w.take k)
    rw [List.length_take] at h2
    omega
  refine cond_split (fun h1 => ?_) (fun h1 => ?_)
  · obtain ⟨x, hx, hlt⟩ := at_of h1
    have more := i64_succ (show k < 4611686018427387904 by omega)
    have hst : (w.take (k + 1)).flatMap enc1 = (w.take k).flatMap enc1 ++ enc1 x := by rw [take_of hx, List.flatMap_append]; simp
    have q1 := hex_at (show x.toNat / 16 < 16 by have := x.toNat_lt; omega)
    have q2 := hex_at (show x.toNat % 16 < 16 by omega)
    simp only [hexS] at q1 q2
    clear h1 hh
    have hh : True := trivial
    have n16 : ((16 : Int) ≠ 0) = True := by simp
    have n4 : ((0 : Int) ≤ 4) = True := by simp
    have hrow1 : (([[V.t (.int .u8 (x.toNat : Int))]] : List (List V)).all fun r => r.all one) = true := rfl
    have hrow3 : (([[V.t (.int .u8 92)], [V.t (.int .u8 ((hexD (x.toNat / 16)).toNat : Int))], [V.t (.int .u8 ((hexD (x.toNat % 16)).toNat : Int))]] : List (List V)).all fun r => r.all one) = true := rfl
    have e1 : ([[V.t (.int .u8 (x.toNat : Int))]] : List (List V)) = (byteT [x]).map fun r => r.map .t := rfl
    have e3 : ([[V.t (.int .u8 92)], [V.t (.int .u8 ((hexD (x.toNat / 16)).toNat : Int))], [V.t (.int .u8 ((hexD (x.toNat % 16)).toNat : Int))]] : List (List V)) = (byteT [92, hexD (x.toNat / 16), hexD (x.toNat % 16)]).map fun r => r.map .t := rfl
    have b1 : ∀ m, m ≤ 3 → ((byteT (34 :: (w.take k).flatMap enc1)).length + m) * 1 ≤ maxBy ∧ (byteT (34 :: (w.take k).flatMap enc1)).length + m ≤ 9223372036854775807 := by
      intro m hm
      rw [byteT_len, List.length_cons]
      simp only [maxBy]
      omega
    simp -implicitDefEqProofs only [hx, nat_nn, Nat.zero_le, quo16, rem16, shr4, and15, n16, n4, q1, q2, c1, more, S0, S1, S2, S3, S4, S5, S6, S7, S8, S9, S10, S11, S12, S13, S14, S15, S16, S17, opv, opvs, eget, env0, setD, lenStr, lenSl, isNilP, isNilS, putAt, if_true, if_false, reduceCtorEq, Nat.reduceLeDiff, Nat.reduceEqDiff, Nat.reduceSub, Nat.reduceMul, Nat.reduceAdd]
    have yes : ∀ rs : List UInt8, enc1 x = rs → byteT (34 :: (w.take k).flatMap enc1) ++ byteT rs = byteT (34 :: (w.take (k + 1)).flatMap enc1) := by
      rintro rs rfl
      rw [hst, ← byteT_app]
      rfl
    repeat' (first
      | ((with_reducible refine cond_known (fun h => ?_) (fun h => ?_)) <;> (replace hh := And.intro h hh; clear h; simp -implicitDefEqProofs only [hh, cond_t, cond_f, hx, nat_nn, Nat.zero_le, quo16, rem16, shr4, and15, n16, n4, q1, q2, c1, more, S0, S1, S2, S3, S4, S5, S6, S7, S8, S9, S10, S11, S12, S13, S14, S15, S16, S17, opv, opvs, eget, env0, setD, lenStr, lenSl, isNilP, isNilS, putAt, if_true, if_false, reduceCtorEq, Nat.reduceLeDiff, Nat.reduceEqDiff, Nat.reduceSub, Nat.reduceMul, Nat.reduceAdd]))
      | ((with_reducible refine call_pure (impl_selfByte x _) ?_); simp -implicitDefEqProofs only [hh, cond_t, cond_f, hx, nat_nn, Nat.zero_le, quo16, rem16, shr4, and15, n16, n4, q1, q2, c1, more, S0, S1, S2, S3, S4, S5, S6, S7, S8, S9, S10, S11, S12, S13, S14, S15, S16, S17, opv, opvs, eget, env0, setD, lenStr, lenSl, isNilP, isNilS, putAt, if_true, if_false, reduceCtorEq, Nat.reduceLeDiff, Nat.reduceEqDiff, Nat.reduceSub, Nat.reduceMul, Nat.reduceAdd])
      | (refine lit_rows ?_; simp -implicitDefEqProofs only [hh, cond_t, cond_f, q_rows_r _ _ hrow1, S0, S1, S2, S3, S4, S5, S6, S7, S8, S9, S10, S11, S12, S13, S14, S15, S16, S17, opv, opvs, eget, env0, setD, lenStr, lenSl, isNilP, isNilS, putAt, if_true, if_false, reduceCtorEq, Nat.reduceLeDiff, Nat.reduceEqDiff, Nat.reduceSub, Nat.reduceMul, Nat.reduceAdd])
      | (rw [q_rows_r _ _ hrow3]; simp -implicitDefEqProofs only [hh, cond_t, cond_f, S0, S1, S2, S3, S4, S5, S6, S7, S8, S9, S10, S11, S12, S13, S14, S15, S16, S17, opv, opvs, eget, env0, setD, lenStr, lenSl, isNilP, isNilS, putAt, if_true, if_false, reduceCtorEq, Nat.reduceLeDiff, Nat.reduceEqDiff, Nat.reduceSub, Nat.reduceMul, Nat.reduceAdd])
      | (rw [e1]; refine hof.apps (byteT_flat _) (by simp [byteT]) (b1 1 (by omega)).1 (b1 1 (by omega)).2 ?_; intro v' s' is' hle hof'; rw [yes [x] (enc1_yes (by (try simp only [Known] at hh); grind [selfB]))] at hof'; (try simp -implicitDefEqProofs only [hh, more, S0, S1, S2, S3, S4, S5, S6, S7, S8, S9, S10, S11, S12, S13, S14, S15, S16, S17, opv, opvs, eget, env0, setD, lenStr, lenSl, isNilP, isNilS, putAt, if_true, if_false, reduceCtorEq, Nat.reduceLeDiff, Nat.reduceEqDiff, Nat.reduceSub, Nat.reduceMul, Nat.reduceAdd]); exact lk_g ⟨k + 1, v', s', is'⟩ (by simp only; omega) ⟨by simp only; omega, hof'⟩ hof'.le rfl rfl)
      | (rw [e3]; refine hof.apps (byteT_flat _) (by simp [byteT]) (b1 3 (by omega)).1 (b1 3 (by omega)).2 ?_; intro v' s' is' hle hof'; rw [yes [92, hexD (x.toNat / 16), hexD (x.toNat % 16)] (enc1_no (by (try simp only [Known] at hh); grind [selfB]))] at hof'; (try simp -implicitDefEqProofs only [hh, more, S0, S1, S2, S3, S4, S5, S6, S7, S8, S9, S10, S11, S12, S13, S14, S15, S16, S17, opv, opvs, eget, env0, setD, lenStr, lenSl, isNilP, isNilS, putAt, if_true, if_false, reduceCtorEq, Nat.reduceLeDiff, Nat.reduceEqDiff, Nat.reduceSub, Nat.reduceMul, Nat.reduceAdd]); exact lk_g ⟨k + 1, v', s', is'⟩ (by simp only; omega) ⟨by simp only; omega, hof'⟩ hof'.le rfl rfl))
  · have hkk := end_of h1 hk
    subst hkk
    rw [List.take_length] at hof
    simp -implicitDefEqProofs only [c1, S0, S1, S2, S3, S4, S5, S6, S7, S8, S9, S10, S11, S12, S13, S14, S15, S16, S17, opv, opvs, eget, env0, setD, lenStr, lenSl, isNilP, isNilS, putAt, if_true, if_false, reduceCtorEq, Nat.reduceLeDiff, Nat.reduceEqDiff, Nat.reduceSub, Nat.reduceMul, Nat.reduceAdd]
    refine lit_rows ?_
    have hrow : (([[V.t (.int .u8 34)]] : List (List V)).all fun r => r.all one) = true := rfl
    simp -implicitDefEqProofs only [q_rows_r _ _ hrow, S0, S1, S2, S3, S4, S5, S6, S7, S8, S9, S10, S11, S12, S13, S14, S15, S16, S17, opv, opvs, eget, env0, setD, lenStr, lenSl, isNilP, isNilS, putAt, if_true, if_false, reduceCtorEq, Nat.reduceLeDiff, Nat.reduceEqDiff, Nat.reduceSub, Nat.reduceMul, Nat.reduceAdd]
    have e1 : ([[V.t (.int .u8 34)]] : List (List V)) = (byteT [34]).map fun r => r.map .t := rfl
    rw [e1]
    have hl2 : (w.flatMap enc1).length ≤ 3 * w.length := by rw [List.take_length] at hlen; exact hlen
    refine hof.apps (byteT_flat _) (by simp [byteT]) (by rw [byteT_len, List.length_cons]; simp only [maxBy, byteT_len, List.length_cons, List.length_nil]; omega) (by rw [byteT_len, List.length_cons, byteT_len, List.length_cons, List.length_nil]; omega) ?_
    intro v' s' is' hle hof'
    rw [← byteT_app] at hof'
    have hby := hof'.bytes
    obtain ⟨τ, rfl⟩ := OFl.same (B := []) (by rw [List.append_nil]; exact hof')
    simp -implicitDefEqProofs only [hby, q_bytesOf_rows, S0, S1, S2, S3, S4, S5, S6, S7, S8, S9, S10, S11, S12, S13, S14, S15, S16, S17, opv, opvs, eget, env0, setD, lenStr, lenSl, isNilP, isNilS, putAt, if_true, if_false, reduceCtorEq, Nat.reduceLeDiff, Nat.reduceEqDiff, Nat.reduceSub, Nat.reduceMul, Nat.reduceAdd]
    exact fin (congrArg (fun l => V.t (T.str l)) hen.symm) rfl

def c_impl_SheetWord : C := (.seq (.ops [⟨(some 2), none, (.mv (.c (.t (.str []))))⟩]) (.seq (.ops [⟨(some 8), none, (.mv (.t 0))⟩, ⟨(some 9), none, (.bin .neq (.t 8) (.c (.t (.str []))))⟩, ⟨(some 3), none, (.mv (.t 9))⟩]) (.seq (.seq (.ops [⟨(some 10), none, (.mv (.t 0))⟩, ⟨(some 11), none, (.len true (.t 10))⟩, ⟨(some 12), none, (.mv (.c (.t (.int .i64 0))))⟩]) (.block 0 (.loop (.seq (.ops [⟨(some 13), none, (.bin .lss (.t 12) (.t 11))⟩]) (.seq (.cond (.t 13) .skip (.exit 0)) (.seq (.block 1 (.seq (.ops [⟨(some 14), none, (.mv (.t 12))⟩, ⟨(some 4), none, (.mv (.t 14))⟩]) (.ops [⟨(some 15), none, (.mv (.t 3))⟩, ⟨(some 16), none, (.mv (.t 15))⟩, ⟨(some 17), (some ⟨16, true⟩), (.mv (.t 0))⟩, ⟨(some 18), (some ⟨16, true⟩), (.mv (.t 4))⟩, ⟨(some 19), (some ⟨16, true⟩), (.index (.t 17) (.t 18))⟩, ⟨(some 20), (some ⟨16, true⟩), (.call (.c (.fn (.func 95) [])) [(.t 19)])⟩, ⟨(some 21), none, (.pick (.t 16) (.t 20) (.c (.t (.bool false))))⟩, ⟨(some 3), none, (.mv (.t 21))⟩]))) (.ops [⟨(some 22), none, (.bin .add (.t 12) (.c (.t (.int .i64 1))))⟩, ⟨(some 12), none, (.mv (.t 22))⟩]))))))) (.seq (.seq (.ops [⟨(some 23), none, (.mv (.t 3))⟩]) (.cond (.t 23) (.seq (.ops [⟨(some 24), none, (.mv (.t 0))⟩, ⟨(some 2), none, (.mv (.t 24))⟩]) .ret) .skip)) (.seq (.ops [⟨(some 25), none, (.lit none 1 1 [(.t (.int .u8 0))] [⟨0, (.c (.t (.int .u8 34)))⟩])⟩, ⟨(some 5), none, (.mv (.t 25))⟩]) (.seq (.seq (.ops [⟨(some 26), none, (.mv (.t 0))⟩, ⟨(some 27), none, (.len true (.t 26))⟩, ⟨(some 28), none, (.mv (.c (.t (.int .i64 0))))⟩]) (.block 2 (.loop (.seq (.ops [⟨(some 29), none, (.bin .lss (.t 28) (.t 27))⟩]) (.seq (.cond (.t 29) .skip (.exit 2)) (.seq (.block 3 (.seq (.ops [⟨(some 30), none, (.mv (.t 28))⟩, ⟨(some 6), none, (.mv (.t 30))⟩]) (.seq (.ops [⟨(some 31), none, (.mv (.t 0))⟩, ⟨(some 32), none, (.mv (.t 6))⟩, ⟨(some 33), none, (.index (.t 31) (.t 32))⟩, ⟨(some 7), none, (.mv (.t 33))⟩]) (.seq (.ops [⟨(some 34), none, (.mv (.t 7))⟩, ⟨(some 35), none, (.call (.c (.fn (.func 96) [])) [(.t 34)])⟩]) (.cond (.t 35) (.ops [⟨(some 36), none, (.mv (.t 5))⟩, ⟨(some 37), none, (.mv (.t 7))⟩, ⟨(some 38), none, (.lit none 1 1 [(.t (.int .u8 0))] [⟨0, (.t 37)⟩])⟩, ⟨(some 39), none, (.append 1 1 (.t 36) (.t 38))⟩, ⟨(some 5), none, (.mv (.t 39))⟩]) (.drawn [(.mk 0 false ⟨(some 40), none, (.mv (.t 5))⟩ []), (.mk 1 false ⟨(some 41), none, (.mv (.t 7))⟩ []), (.mk 2 false ⟨(some 42), none, (.bin .shr (.t 41) (.c (.t (.int .u64 4))))⟩ []), (.mk 3 false ⟨(some 43), none, (.index (.c (.t (.str [48, 49, 50, 51, 52, 53, 54, 55, 56, 57, 97, 98, 99, 100, 101, 102]))) (.t 42))⟩ []), (.mk 4 false ⟨(some 44), none, (.mv (.t 7))⟩ []), (.mk 5 false ⟨(some 45), none, (.bin .and (.t 44) (.c (.t (.int .u8 15))))⟩ []), (.mk 6 false ⟨(some 46), none, (.index (.c (.t (.str [48, 49, 50, 51, 52, 53, 54, 55, 56, 57, 97, 98, 99, 100, 101, 102]))) (.t 45))⟩ []), (.mk 7 false ⟨(some 47), none, (.lit (some false) 1 3 [(.t (.int .u8 0))] [⟨0, (.c (.t (.int .u8 92)))⟩, ⟨1, (.t 43)⟩, ⟨2, (.t 46)⟩])⟩ []), (.mk 8 false ⟨(some 48), none, (.append 1 1 (.t 40) (.t 47))⟩ []), (.mk 9 true ⟨(some 5), none, (.mv (.t 48))⟩ [])])))))) (.ops [⟨(some 49), none, (.bin .add (.t 28) (.c (.t (.int .i64 1))))⟩, ⟨(some 28), none, (.mv (.t 49))⟩]))))))) (.seq (.ops [⟨(some 50), none, (.mv (.t 5))⟩, ⟨(some 51), none, (.lit none 1 1 [(.t (.int .u8 0))] [⟨0, (.c (.t (.int .u8 34)))⟩])⟩, ⟨(some 52), none, (.append 1 1 (.t 50) (.t 51))⟩, ⟨(some 53), none, (.bytesStr (.t 52))⟩, ⟨(some 2), none, (.mv (.t 53))⟩]) .ret)))))))
theorem k_impl_SheetWord : comp Tryd.prog 54 (Tryd.f79.body.getD .skip) = some c_impl_SheetWord := by kernel_rfl

theorem impl_SheetWord0 (w : List UInt8) (hw : w.length ≤ 1048576)  (σ : Store) : ACalls Tryd.prog 79 [.t (.str (w))] σ fun rr σ' => rr = .t (.str (encW w)) ∧ σ' = σ := by
  refine acalls_of Tryd.func79 (by decide +kernel) (code := Tryd.f79.body.getD .skip) (n := 54) (c := c_impl_SheetWord) (rs := [(.tmp 2)]) rfl rfl k_impl_SheetWord (by kernel_rfl) (by simp) (fun hσ => ?_)
  have hh : True := trivial
  have fin : ∀ {u : V} {τ : Store}, u = .t (.str (encW w)) → u.lt σ.length = true → retV σ.length (fun rr σ' => rr = .t (.str (encW w)) ∧ σ' = σ) (σ ++ τ) (some [u]) := fun h h2 => ret_same rfl hσ h2 ⟨h, rfl⟩
  have fin0 : ∀ {u : V}, u = .t (.str (encW w)) → retV σ.length (fun rr σ' => rr = .t (.str (encW w)) ∧ σ' = σ) σ (some [u]) := fun h => ret_same0 rfl ⟨h, rfl⟩
  simp -implicitDefEqProofs only [c_impl_SheetWord, S0, S1, S2, S3, S4, S5, S6, S7, S8, S9, S10, S11, S12, S13, S14, S15, S16, S17, opv, opvs, eget, env0, setD, lenStr, lenSl, isNilP, isNilS, putAt, if_true, if_false, reduceCtorEq, Nat.reduceLeDiff, Nat.reduceEqDiff, Nat.reduceSub, Nat.reduceMul, Nat.reduceAdd]
  refine loop_p [3, 12, 0, 11] [0, 11] (fun k : Nat => [(3, .t (.bool (!(w == []) && (w.take k).all bareB))), (12, .t (.int .i64 (k : Nat)))]) (fun k => k ≤ w.length) (fun k => w.length - k) 0 (by simp) (Nat.zero_le _) (by simp only [keep, eget, reduceCtorEq, Nat.reduceEqDiff, if_true, if_false, List.take_zero, List.all_nil, Bool.and_true, List.append_nil, List.cons_append, List.nil_append, gt_len]; rfl) ?_
  rintro k hk
  simp -implicitDefEqProofs only [keep, S0, S1, S2, S3, S4, S5, S6, S7, S8, S9, S10, S11, S12, S13, S14, S15, S16, S17, opv, opvs, eget, env0, setD, lenStr, lenSl, isNilP, isNilS, putAt, if_true, if_false, reduceCtorEq, Nat.reduceLeDiff, Nat.reduceEqDiff, Nat.reduceSub, Nat.reduceMul, Nat.reduceAdd]
  refine cond_split (fun h1 => ?_) (fun h1 => ?_)
  · obtain ⟨x, hx, hlt⟩ := at_of h1
    have more := i64_succ (show k < 4611686018427387904 by omega)
    have hst : (w.take (k + 1)).all bareB = ((w.take k).all bareB && bareB x) := by rw [take_of hx, List.all_append]; simp
    clear h1 hh
    have hh : True := trivial
    simp -implicitDefEqProofs only [hx, nat_nn, Nat.zero_le, more, S0, S1, S2, S3, S4, S5, S6, S7, S8, S9, S10, S11, S12, S13, S14, S15, S16, S17, opv, opvs, eget, env0, setD, lenStr, lenSl, isNilP, isNilS, putAt, if_true, if_false, reduceCtorEq, Nat.reduceLeDiff, Nat.reduceEqDiff, Nat.reduceSub, Nat.reduceMul, Nat.reduceAdd]
    rcases hb : (!(w == []) && (w.take k).all bareB) with _ | _
    · have hb2 : (!(w == []) && (w.take (k + 1)).all bareB) = false := by rw [hst, ← Bool.and_assoc, hb]; rfl
      simp -implicitDefEqProofs only [hx, nat_nn, Nat.zero_le, more, hb, cond_t, cond_f, S0, S1, S2, S3, S4, S5, S6, S7, S8, S9, S10, S11, S12, S13, S14, S15, S16, S17, opv, opvs, eget, env0, setD, lenStr, lenSl, isNilP, isNilS, putAt, if_true, if_false, reduceCtorEq, Nat.reduceLeDiff, Nat.reduceEqDiff, Nat.reduceSub, Nat.reduceMul, Nat.reduceAdd]
      exact lk_p0 (k + 1) (by simp) (by simp) (by omega) (by omega) (by simp only [keep, eget, reduceCtorEq, Nat.reduceEqDiff, if_true, if_false, hb2, List.cons_append, List.nil_append])
    · have hb2 : (!(w == []) && (w.take (k + 1)).all bareB) = bareB x := by rw [hst, ← Bool.and_assoc, hb]; rfl
      simp -implicitDefEqProofs only [hx, nat_nn, Nat.zero_le, more, hb, cond_t, cond_f, S0, S1, S2, S3, S4, S5, S6, S7, S8, S9, S10, S11, S12, S13, S14, S15, S16, S17, opv, opvs, eget, env0, setD, lenStr, lenSl, isNilP, isNilS, putAt, if_true, if_false, reduceCtorEq, Nat.reduceLeDiff, Nat.reduceEqDiff, Nat.reduceSub, Nat.reduceMul, Nat.reduceAdd]
      refine call_pure (impl_bareByte x _) ?_
      simp -implicitDefEqProofs only [hx, nat_nn, Nat.zero_le, more, hb, cond_t, cond_f, S0, S1, S2, S3, S4, S5, S6, S7, S8, S9, S10, S11, S12, S13, S14, S15, S16, S17, opv, opvs, eget, env0, setD, lenStr, lenSl, isNilP, isNilS, putAt, if_true, if_false, reduceCtorEq, Nat.reduceLeDiff, Nat.reduceEqDiff, Nat.reduceSub, Nat.reduceMul, Nat.reduceAdd]
      exact lk_p0 (k + 1) (by simp) (by simp) (by omega) (by omega) (by simp only [keep, eget, reduceCtorEq, Nat.reduceEqDiff, if_true, if_false, hb2, List.cons_append, List.nil_append])
  have hkk := end_of h1 hk
  subst hkk
  clear h1 hk
  simp -implicitDefEqProofs only [List.take_length, S0, S1, S2, S3, S4, S5, S6, S7, S8, S9, S10, S11, S12, S13, S14, S15, S16, S17, opv, opvs, eget, env0, setD, lenStr, lenSl, isNilP, isNilS, putAt, if_true, if_false, reduceCtorEq, Nat.reduceLeDiff, Nat.reduceEqDiff, Nat.reduceSub, Nat.reduceMul, Nat.reduceAdd]
  rcases hb : (!(w == []) && w.all bareB) with _ | _
  rotate_left
  · simp -implicitDefEqProofs only [hb, cond_t, cond_f, S0, S1, S2, S3, S4, S5, S6, S7, S8, S9, S10, S11, S12, S13, S14, S15, S16, S17, opv, opvs, eget, env0, setD, lenStr, lenSl, isNilP, isNilS, putAt, if_true, if_false, reduceCtorEq, Nat.reduceLeDiff, Nat.reduceEqDiff, Nat.reduceSub, Nat.reduceMul, Nat.reduceAdd]
    exact fin0 (by rw [encW, hb]; rfl)
  have hen : encW w = 34 :: (w.flatMap enc1 ++ [34]) := by rw [encW, hb]; rfl
  have c1 : 0 < 1 ∧ 0 < 3 ∧ 1 < 3 ∧ 2 < 3 := by omega
  simp -implicitDefEqProofs only [hb, cond_t, cond_f, c1, S0, S1, S2, S3, S4, S5, S6, S7, S8, S9, S10, S11, S12, S13, S14, S15, S16, S17, opv, opvs, eget, env0, setD, lenStr, lenSl, isNilP, isNilS, putAt, if_true, if_false, reduceCtorEq, Nat.reduceLeDiff, Nat.reduceEqDiff, Nat.reduceSub, Nat.reduceMul, Nat.reduceAdd]
  refine lit_own ?_
  simp -implicitDefEqProofs only [S0, S1, S2, S3, S4, S5, S6, S7, S8, S9, S10, S11, S12, S13, S14, S15, S16, S17, opv, opvs, eget, env0, setD, lenStr, lenSl, isNilP, isNilS, putAt, if_true, if_false, reduceCtorEq, Nat.reduceLeDiff, Nat.reduceEqDiff, Nat.reduceSub, Nat.reduceMul, Nat.reduceAdd]
  have h0 : OFl σ 1 (byteT [34]) (.sl σ.length 1 0 1) (σ ++ [.slc 1 [[.t (.int .u8 34)]]]) [σ.length] := OFl.flatObj (by omega) (byteT_flat _) rfl
  refine loop_g [5, 28, 0, 27] [0, 27] (fun g : Ga => [(5, g.v), (28, .t (.int .i64 (g.k : Nat)))]) (fun g => g.s) (fun g => g.k ≤ w.length ∧ OFl σ 1 (byteT (34 :: (w.take g.k).flatMap enc1)) g.v g.s g.is) (fun g => w.length - g.k) ⟨0, .sl σ.length 1 0 1, σ ++ [.slc 1 [[.t (.int .u8 34)]]], [σ.length]⟩ (by simp) ⟨Nat.zero_le _, by simpa using h0⟩ rfl rfl ?_
  rintro ⟨k, v, s, is⟩ ⟨hk, hof⟩
  simp only at hk hof
  have hbl : σ.length ≤ s.length := hof.le
  simp -implicitDefEqProofs only [keep, S0, S1, S2, S3, S4, S5, S6, S7, S8, S9, S10, S11, S12, S13, S14, S15, S16, S17, opv, opvs, eget, env0, setD, lenStr, lenSl, isNilP, isNilS, putAt, if_true, if_false, reduceCtorEq, Nat.reduceLeDiff, Nat.reduceEqDiff, Nat.reduceSub, Nat.reduceMul, Nat.reduceAdd]
  have hlen : ((w.take k).flatMap enc1).length ≤ 3 * k := by
    have : ∀ l : List UInt8, (l.flatMap enc1).length ≤ 3 * l.length := by
      intro l
      induction l with
      | nil => simp
      | cons a l ih =>
        have : (enc1 a).length ≤ 3 := by unfold enc1; split <;> simp
        rw [List.flatMap_cons, List.length_append, List.length_cons]
        omega
    have h2 := this (w.take k)
    rw [List.length_take] at h2
    omega
  refine cond_split (fun h1 => ?_) (fun h1 => ?_)
  · obtain ⟨x, hx, hlt⟩ := at_of h1
    have more := i64_succ (show k < 4611686018427387904 by omega)
    have hst : (w.take (k + 1)).flatMap enc1 = (w.take k).flatMap enc1 ++ enc1 x := by rw [take_of hx, List.flatMap_append]; simp
    have q1 := hex_at (show x.toNat / 16 < 16 by have := x.toNat_lt; omega)
    have q2 := hex_at (show x.toNat % 16 < 16 by omega)
    simp only [hexS] at q1 q2
    clear h1 hh
    have hh : True := trivial
    have n16 : ((16 : Int) ≠ 0) = True := by simp
    have n4 : ((0 : Int) ≤ 4) = True := by simp
    have hrow1 : (([[V.t (.int .u8 (x.toNat : Int))]] : List (List V)).all fun r => r.all one) = true := rfl
    have hrow3 : (([[V.t (.int .u8 92)], [V.t (.int .u8 ((hexD (x.toNat / 16)).toNat : Int))], [V.t (.int .u8 ((hexD (x.toNat % 16)).toNat : Int))]] : List (List V)).all fun r => r.all one) = true := rfl
    have e1 : ([[V.t (.int .u8 (x.toNat : Int))]] : List (List V)) = (byteT [x]).map fun r => r.map .t := rfl
    have e3 : ([[V.t (.int .u8 92)], [V.t (.int .u8 ((hexD (x.toNat / 16)).toNat : Int))], [V.t (.int .u8 ((hexD (x.toNat % 16)).toNat : Int))]] : List (List V)) = (byteT [92, hexD (x.toNat / 16), hexD (x.toNat % 16)]).map fun r => r.map .t := rfl
    have b1 : ∀ m, m ≤ 3 → ((byteT (34 :: (w.take k).flatMap enc1)).length + m) * 1 ≤ maxBy ∧ (byteT (34 :: (w.take k).flatMap enc1)).length + m ≤ 9223372036854775807 := by
      intro m hm
      rw [byteT_len, List.length_cons]
      simp only [maxBy]
      omega
    simp -implicitDefEqProofs only [hx, nat_nn, Nat.zero_le, quo16, rem16, shr4, and15, n16, n4, q1, q2, c1, more, S0, S1, S2, S3, S4, S5, S6, S7, S8, S9, S10, S11, S12, S13, S14, S15, S16, S17, opv, opvs, eget, env0, setD, lenStr, lenSl, isNilP, isNilS, putAt, if_true, if_false, reduceCtorEq, Nat.reduceLeDiff, Nat.reduceEqDiff, Nat.reduceSub, Nat.reduceMul, Nat.reduceAdd]
    have yes : ∀ rs : List UInt8, enc1 x = rs → byteT (34 :: (w.take k).flatMap enc1) ++ byteT rs = byteT (34 :: (w.take (k + 1)).flatMap enc1) := by
      rintro rs rfl
      rw [hst, ← byteT_app]
      rfl
    repeat' (first
      | ((with_reducible refine cond_known (fun h => ?_) (fun h => ?_)) <;> (replace hh := And.intro h hh; clear h; simp -implicitDefEqProofs only [hh, cond_t, cond_f, hx, nat_nn, Nat.zero_le, quo16, rem16, shr4, and15, n16, n4, q1, q2, c1, more, S0, S1, S2, S3, S4, S5, S6, S7, S8, S9, S10, S11, S12, S13, S14, S15, S16, S17, opv, opvs, eget, env0, setD, lenStr, lenSl, isNilP, isNilS, putAt, if_true, if_false, reduceCtorEq, Nat.reduceLeDiff, Nat.reduceEqDiff, Nat.reduceSub, Nat.reduceMul, Nat.reduceAdd]))
      | ((with_reducible refine call_pure (impl_selfByte x _) ?_); simp -implicitDefEqProofs only [hh, cond_t, cond_f, hx, nat_nn, Nat.zero_le, quo16, rem16, shr4, and15, n16, n4, q1, q2, c1, more, S0, S1, S2, S3, S4, S5, S6, S7, S8, S9, S10, S11, S12, S13, S14, S15, S16, S17, opv, opvs, eget, env0, setD, lenStr, lenSl, isNilP, isNilS, putAt, if_true, if_false, reduceCtorEq, Nat.reduceLeDiff, Nat.reduceEqDiff, Nat.reduceSub, Nat.reduceMul, Nat.reduceAdd])
      | (refine lit_rows ?_; simp -implicitDefEqProofs only [hh, cond_t, cond_f, q_rows_r _ _ hrow1, S0, S1, S2, S3, S4, S5, S6, S7, S8, S9, S10, S11, S12, S13, S14, S15, S16, S17, opv, opvs, eget, env0, setD, lenStr, lenSl, isNilP, isNilS, putAt, if_true, if_false, reduceCtorEq, Nat.reduceLeDiff, Nat.reduceEqDiff, Nat.reduceSub, Nat.reduceMul, Nat.reduceAdd])
      | (rw [q_rows_r _ _ hrow3]; simp -implicitDefEqProofs only [hh, cond_t, cond_f, S0, S1, S2, S3, S4, S5, S6, S7, S8, S9, S10, S11, S12, S13, S14, S15, S16, S17, opv, opvs, eget, env0, setD, lenStr, lenSl, isNilP, isNilS, putAt, if_true, if_false, reduceCtorEq, Nat.reduceLeDiff, Nat.reduceEqDiff, Nat.reduceSub, Nat.reduceMul, Nat.reduceAdd])
      | (rw [e1]; refine hof.apps (byteT_flat _) (by simp [byteT]) (b1 1 (by omega)).1 (b1 1 (by omega)).2 ?_; intro v' s' is' hle hof'; rw [yes [x] (enc1_yes (by (try simp only [Known] at hh); grind [selfB]))] at hof'; (try simp -implicitDefEqProofs only [hh, more, S0, S1, S2, S3, S4, S5, S6, S7, S8, S9, S10, S11, S12, S13, S14, S15, S16, S17, opv, opvs, eget, env0, setD, lenStr, lenSl, isNilP, isNilS, putAt, if_true, if_false, reduceCtorEq, Nat.reduceLeDiff, Nat.reduceEqDiff, Nat.reduceSub, Nat.reduceMul, Nat.reduceAdd]); exact lk_g ⟨k + 1, v', s', is'⟩ (by simp only; omega) ⟨by simp only; omega, hof'⟩ hof'.le rfl rfl)
      | (rw [e3]; refine hof.apps (byteT_flat _) (by simp [byteT]) (b1 3 (by omega)).1 (b1 3 (by omega)).2 ?_; intro v' s' is' hle hof'; rw [yes [92, hexD (x.toNat / 16), hexD (x.toNat % 16)] (enc1_no (by (try simp only [Known] at hh); grind [selfB]))] at hof'; (try simp -implicitDefEqProofs only [hh, more, S0, S1, S2, S3, S4, S5, S6, S7, S8, S9, S10, S11, S12, S13, S14, S15, S16, S17, opv, opvs, eget, env0, setD, lenStr, lenSl, isNilP, isNilS, putAt, if_true, if_false, reduceCtorEq, Nat.reduceLeDiff, Nat.reduceEqDiff, Nat.reduceSub, Nat.reduceMul, Nat.reduceAdd]); exact lk_g ⟨k + 1, v', s', is'⟩ (by simp only; omega) ⟨by simp only; omega, hof'⟩ hof'.le rfl rfl))
  · have hkk := end_of h1 hk
    subst hkk
    rw [List.take_length] at hof
    simp -implicitDefEqProofs only [c1, S0, S1, S2, S3, S4, S5, S6, S7, S8, S9, S10, S11, S12, S13, S14, S15, S16, S17, opv, opvs, eget, env0, setD, lenStr, lenSl, isNilP, isNilS, putAt, if_true, if_false, reduceCtorEq, Nat.reduceLeDiff, Nat.reduceEqDiff, Nat.reduceSub, Nat.reduceMul, Nat.reduceAdd]
    refine lit_rows ?_
    have hrow : (([[V.t (.int .u8 34)]] : List (List V)).all fun r => r.all one) = true := rfl
    simp -implicitDefEqProofs only [q_rows_r _ _ hrow, S0, S1, S2, S3, S4, S5, S6, S7, S8, S9, S10, S11, S12, S13, S14, S15, S16, S17, opv, opvs, eget, env0, setD, lenStr, lenSl, isNilP, isNilS, putAt, if_true, if_false, reduceCtorEq, Nat.reduceLeDiff, Nat.reduceEqDiff, Nat.reduceSub, Nat.reduceMul, Nat.reduceAdd]
    have e1 : ([[V.t (.int .u8 34)]] : List (List V)) = (byteT [34]).map fun r => r.map .t := rfl
    rw [e1]
    have hl2 : (w.flatMap enc1).length ≤ 3 * w.length := by rw [List.take_length] at hlen; exact hlen
    refine hof.apps (byteT_flat _) (by simp [byteT]) (by rw [byteT_len, List.length_cons]; simp only [maxBy, byteT_len, List.length_cons, List.length_nil]; omega) (by rw [byteT_len, List.length_cons, byteT_len, List.length_cons, List.length_nil]; omega) ?_
    intro v' s' is' hle hof'
    rw [← byteT_app] at hof'
    have hby := hof'.bytes
    obtain ⟨τ, rfl⟩ := OFl.same (B := []) (by rw [List.append_nil]; exact hof')
    simp -implicitDefEqProofs only [hby, q_bytesOf_rows, S0, S1, S2, S3, S4, S5, S6, S7, S8, S9, S10, S11, S12, S13, S14, S15, S16, S17, opv, opvs, eget, env0, setD, lenStr, lenSl, isNilP, isNilS, putAt, if_true, if_false, reduceCtorEq, Nat.reduceLeDiff, Nat.reduceEqDiff, Nat.reduceSub, Nat.reduceMul, Nat.reduceAdd]
    exact fin (congrArg (fun l => V.t (T.str l)) hen.symm) rfl

theorem spec_SheetWord (w : List UInt8) (hw : w.length ≤ 1048576) (σ : Store) : ACalls Tryd.prog 76 [.t (.str w)] σ fun rr σ' => rr = .t (.str (encW w)) ∧ σ' = σ := spec_SheetWord0 w hw σ
theorem impl_SheetWord (w : List UInt8) (hw : w.length ≤ 1048576) (σ : Store) : ACalls Tryd.prog 79 [.t (.str w)] σ fun rr σ' => rr = .t (.str (encW w)) ∧ σ' = σ := impl_SheetWord0 w hw σ
end Go.Proofs.YtnnnemgbgilfaaaDoor.W
