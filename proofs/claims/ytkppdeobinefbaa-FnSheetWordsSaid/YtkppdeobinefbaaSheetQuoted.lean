/- A word written, by the reference and by the program. Conditions: none. -/
/- What stands in quotation marks, by the reference and by the program. Conditions: none. -/
import Derived.Test.YtkppdeobinefbaaSheetCutM
import Derived.Test.YtkppdeobinefbaaAb4
import Derived.Test.YtkppdeobinefbaaProg
set_option linter.unusedSimpArgs false
set_option linter.unusedVariables false
set_option linter.defProp false

section
open Go Go.Ab
set_option maxHeartbeats 2000000
namespace Go.Proofs.Ytkppdeobinefbaa.W
def c_spec_l37Bare : C := (.seq (.ops [⟨(some 2), none, (.mv (.c (.t (.bool false))))⟩]) (.seq (.ops [⟨(some 3), none, (.mv (.t 0))⟩, ⟨(some 4), none, (.bin .geq (.t 3) (.c (.t (.int .u8 33))))⟩, ⟨(some 5), none, (.mv (.t 4))⟩, ⟨(some 6), (some ⟨5, true⟩), (.mv (.t 0))⟩, ⟨(some 7), (some ⟨5, true⟩), (.bin .leq (.t 6) (.c (.t (.int .u8 126))))⟩, ⟨(some 8), none, (.pick (.t 5) (.t 7) (.c (.t (.bool false))))⟩, ⟨(some 9), none, (.mv (.t 8))⟩, ⟨(some 10), (some ⟨9, true⟩), (.mv (.t 0))⟩, ⟨(some 11), (some ⟨9, true⟩), (.bin .neq (.t 10) (.c (.t (.int .u8 34))))⟩, ⟨(some 12), none, (.pick (.t 9) (.t 11) (.c (.t (.bool false))))⟩, ⟨(some 13), none, (.mv (.t 12))⟩, ⟨(some 14), (some ⟨13, true⟩), (.mv (.t 0))⟩, ⟨(some 15), (some ⟨13, true⟩), (.bin .neq (.t 14) (.c (.t (.int .u8 35))))⟩, ⟨(some 16), none, (.pick (.t 13) (.t 15) (.c (.t (.bool false))))⟩, ⟨(some 17), none, (.mv (.t 16))⟩, ⟨(some 18), (some ⟨17, true⟩), (.mv (.t 0))⟩, ⟨(some 19), (some ⟨17, true⟩), (.bin .neq (.t 18) (.c (.t (.int .u8 92))))⟩, ⟨(some 20), none, (.pick (.t 17) (.t 19) (.c (.t (.bool false))))⟩, ⟨(some 2), none, (.mv (.t 20))⟩]) .ret))
theorem k_spec_l37Bare : comp Try.prog 21 (Try.f16.body.getD .skip) = some c_spec_l37Bare := by kernel_rfl

theorem spec_l37Bare (c : UInt8)  (σ : Store) : ACalls Try.prog 16 [.t (.int .u8 (c.toNat : Int))] σ fun rr σ' => rr = .t (.bool (bareB c)) ∧ σ' = σ := by
  refine acalls_of Try.func16 (by decide +kernel) (code := Try.f16.body.getD .skip) (n := 21) (c := c_spec_l37Bare) (rs := [(.tmp 2)]) rfl rfl k_spec_l37Bare (by kernel_rfl) (by simp) (fun hσ => ?_)
  have hh : True := trivial
  have fin : ∀ {u : V} {τ : Store}, u = .t (.bool (bareB c)) → u.lt σ.length = true → retV σ.length (fun rr σ' => rr = .t (.bool (bareB c)) ∧ σ' = σ) (σ ++ τ) (some [u]) := fun h h2 => ret_same rfl hσ h2 ⟨h, rfl⟩
  have fin0 : ∀ {u : V}, u = .t (.bool (bareB c)) → retV σ.length (fun rr σ' => rr = .t (.bool (bareB c)) ∧ σ' = σ) σ (some [u]) := fun h => ret_same0 rfl ⟨h, rfl⟩
  simp -implicitDefEqProofs only [c_spec_l37Bare, S0, S1, S2, S3, S4, S5, S6, S7, S8, S9, S10, S11, S12, S13, S14, S15, S16, S17, opv, opvs, eget, env0, setD, lenStr, lenSl, isNilP, isNilS, putAt, if_true, if_false, reduceCtorEq, Nat.reduceLeDiff, Nat.reduceEqDiff, Nat.reduceSub, Nat.reduceMul, Nat.reduceAdd]
  repeat' (first
    | ((with_reducible refine cond_known (fun h => ?_) (fun h => ?_)) <;> (replace hh := And.intro h hh; clear h; simp -implicitDefEqProofs only [hh, cond_t, cond_f, S0, S1, S2, S3, S4, S5, S6, S7, S8, S9, S10, S11, S12, S13, S14, S15, S16, S17, opv, opvs, eget, env0, setD, lenStr, lenSl, isNilP, isNilS, putAt, if_true, if_false, reduceCtorEq, Nat.reduceLeDiff, Nat.reduceEqDiff, Nat.reduceSub, Nat.reduceMul, Nat.reduceAdd]))
    | (first | ((with_reducible refine fin0 ?_); refine tb ?_; (try simp only [Known] at hh); grind [bareB]) | ((with_reducible refine fin ?_ ?_); rotate_left; exact rfl; refine tb ?_; (try simp only [Known] at hh); grind [bareB])))

def c_impl_bareByte : C := (.seq (.ops [⟨(some 2), none, (.mv (.c (.t (.bool false))))⟩]) (.seq (.ops [⟨(some 3), none, (.mv (.t 0))⟩, ⟨(some 4), none, (.bin .geq (.t 3) (.c (.t (.int .u8 33))))⟩, ⟨(some 5), none, (.mv (.t 4))⟩, ⟨(some 6), (some ⟨5, true⟩), (.mv (.t 0))⟩, ⟨(some 7), (some ⟨5, true⟩), (.bin .leq (.t 6) (.c (.t (.int .u8 126))))⟩, ⟨(some 8), none, (.pick (.t 5) (.t 7) (.c (.t (.bool false))))⟩, ⟨(some 9), none, (.mv (.t 8))⟩, ⟨(some 10), (some ⟨9, true⟩), (.mv (.t 0))⟩, ⟨(some 11), (some ⟨9, true⟩), (.bin .neq (.t 10) (.c (.t (.int .u8 34))))⟩, ⟨(some 12), none, (.pick (.t 9) (.t 11) (.c (.t (.bool false))))⟩, ⟨(some 13), none, (.mv (.t 12))⟩, ⟨(some 14), (some ⟨13, true⟩), (.mv (.t 0))⟩, ⟨(some 15), (some ⟨13, true⟩), (.bin .neq (.t 14) (.c (.t (.int .u8 35))))⟩, ⟨(some 16), none, (.pick (.t 13) (.t 15) (.c (.t (.bool false))))⟩, ⟨(some 17), none, (.mv (.t 16))⟩, ⟨(some 18), (some ⟨17, true⟩), (.mv (.t 0))⟩, ⟨(some 19), (some ⟨17, true⟩), (.bin .neq (.t 18) (.c (.t (.int .u8 92))))⟩, ⟨(some 20), none, (.pick (.t 17) (.t 19) (.c (.t (.bool false))))⟩, ⟨(some 2), none, (.mv (.t 20))⟩]) .ret))
theorem k_impl_bareByte : comp Try.prog 21 (Try.f17.body.getD .skip) = some c_impl_bareByte := by kernel_rfl

theorem impl_bareByte (c : UInt8)  (σ : Store) : ACalls Try.prog 17 [.t (.int .u8 (c.toNat : Int))] σ fun rr σ' => rr = .t (.bool (bareB c)) ∧ σ' = σ := by
  refine acalls_of Try.func17 (by decide +kernel) (code := Try.f17.body.getD .skip) (n := 21) (c := c_impl_bareByte) (rs := [(.tmp 2)]) rfl rfl k_impl_bareByte (by kernel_rfl) (by simp) (fun hσ => ?_)
  have hh : True := trivial
  have fin : ∀ {u : V} {τ : Store}, u = .t (.bool (bareB c)) → u.lt σ.length = true → retV σ.length (fun rr σ' => rr = .t (.bool (bareB c)) ∧ σ' = σ) (σ ++ τ) (some [u]) := fun h h2 => ret_same rfl hσ h2 ⟨h, rfl⟩
  have fin0 : ∀ {u : V}, u = .t (.bool (bareB c)) → retV σ.length (fun rr σ' => rr = .t (.bool (bareB c)) ∧ σ' = σ) σ (some [u]) := fun h => ret_same0 rfl ⟨h, rfl⟩
  simp -implicitDefEqProofs only [c_impl_bareByte, S0, S1, S2, S3, S4, S5, S6, S7, S8, S9, S10, S11, S12, S13, S14, S15, S16, S17, opv, opvs, eget, env0, setD, lenStr, lenSl, isNilP, isNilS, putAt, if_true, if_false, reduceCtorEq, Nat.reduceLeDiff, Nat.reduceEqDiff, Nat.reduceSub, Nat.reduceMul, Nat.reduceAdd]
  repeat' (first
    | ((with_reducible refine cond_known (fun h => ?_) (fun h => ?_)) <;> (replace hh := And.intro h hh; clear h; simp -implicitDefEqProofs only [hh, cond_t, cond_f, S0, S1, S2, S3, S4, S5, S6, S7, S8, S9, S10, S11, S12, S13, S14, S15, S16, S17, opv, opvs, eget, env0, setD, lenStr, lenSl, isNilP, isNilS, putAt, if_true, if_false, reduceCtorEq, Nat.reduceLeDiff, Nat.reduceEqDiff, Nat.reduceSub, Nat.reduceMul, Nat.reduceAdd]))
    | (first | ((with_reducible refine fin0 ?_); refine tb ?_; (try simp only [Known] at hh); grind [bareB]) | ((with_reducible refine fin ?_ ?_); rotate_left; exact rfl; refine tb ?_; (try simp only [Known] at hh); grind [bareB])))

def c_impl_selfByte : C := (.seq (.ops [⟨(some 2), none, (.mv (.c (.t (.bool false))))⟩]) (.seq (.ops [⟨(some 3), none, (.mv (.t 0))⟩, ⟨(some 4), none, (.bin .geq (.t 3) (.c (.t (.int .u8 32))))⟩, ⟨(some 5), none, (.mv (.t 4))⟩, ⟨(some 6), (some ⟨5, true⟩), (.mv (.t 0))⟩, ⟨(some 7), (some ⟨5, true⟩), (.bin .leq (.t 6) (.c (.t (.int .u8 126))))⟩, ⟨(some 8), none, (.pick (.t 5) (.t 7) (.c (.t (.bool false))))⟩, ⟨(some 9), none, (.mv (.t 8))⟩, ⟨(some 10), (some ⟨9, true⟩), (.mv (.t 0))⟩, ⟨(some 11), (some ⟨9, true⟩), (.bin .neq (.t 10) (.c (.t (.int .u8 34))))⟩, ⟨(some 12), none, (.pick (.t 9) (.t 11) (.c (.t (.bool false))))⟩, ⟨(some 13), none, (.mv (.t 12))⟩, ⟨(some 14), (some ⟨13, true⟩), (.mv (.t 0))⟩, ⟨(some 15), (some ⟨13, true⟩), (.bin .neq (.t 14) (.c (.t (.int .u8 92))))⟩, ⟨(some 16), none, (.pick (.t 13) (.t 15) (.c (.t (.bool false))))⟩, ⟨(some 2), none, (.mv (.t 16))⟩]) .ret))
theorem k_impl_selfByte : comp Try.prog 17 (Try.f18.body.getD .skip) = some c_impl_selfByte := by kernel_rfl

theorem impl_selfByte (c : UInt8)  (σ : Store) : ACalls Try.prog 18 [.t (.int .u8 (c.toNat : Int))] σ fun rr σ' => rr = .t (.bool (selfB c)) ∧ σ' = σ := by
  refine acalls_of Try.func18 (by decide +kernel) (code := Try.f18.body.getD .skip) (n := 17) (c := c_impl_selfByte) (rs := [(.tmp 2)]) rfl rfl k_impl_selfByte (by kernel_rfl) (by simp) (fun hσ => ?_)
  have hh : True := trivial
  have fin : ∀ {u : V} {τ : Store}, u = .t (.bool (selfB c)) → u.lt σ.length = true → retV σ.length (fun rr σ' => rr = .t (.bool (selfB c)) ∧ σ' = σ) (σ ++ τ) (some [u]) := fun h h2 => ret_same rfl hσ h2 ⟨h, rfl⟩
  have fin0 : ∀ {u : V}, u = .t (.bool (selfB c)) → retV σ.length (fun rr σ' => rr = .t (.bool (selfB c)) ∧ σ' = σ) σ (some [u]) := fun h => ret_same0 rfl ⟨h, rfl⟩
  simp -implicitDefEqProofs only [c_impl_selfByte, S0, S1, S2, S3, S4, S5, S6, S7, S8, S9, S10, S11, S12, S13, S14, S15, S16, S17, opv, opvs, eget, env0, setD, lenStr, lenSl, isNilP, isNilS, putAt, if_true, if_false, reduceCtorEq, Nat.reduceLeDiff, Nat.reduceEqDiff, Nat.reduceSub, Nat.reduceMul, Nat.reduceAdd]
  repeat' (first
    | ((with_reducible refine cond_known (fun h => ?_) (fun h => ?_)) <;> (replace hh := And.intro h hh; clear h; simp -implicitDefEqProofs only [hh, cond_t, cond_f, S0, S1, S2, S3, S4, S5, S6, S7, S8, S9, S10, S11, S12, S13, S14, S15, S16, S17, opv, opvs, eget, env0, setD, lenStr, lenSl, isNilP, isNilS, putAt, if_true, if_false, reduceCtorEq, Nat.reduceLeDiff, Nat.reduceEqDiff, Nat.reduceSub, Nat.reduceMul, Nat.reduceAdd]))
    | (first | ((with_reducible refine fin0 ?_); refine tb ?_; (try simp only [Known] at hh); grind [selfB]) | ((with_reducible refine fin ?_ ?_); rotate_left; exact rfl; refine tb ?_; (try simp only [Known] at hh); grind [selfB])))

theorem quo16 (c : UInt8) : IntKind.u8.wrap ((c.toNat : Int).tdiv 16) = ((c.toNat / 16 : Nat) : Int) := by
  have h : ∀ n : Fin 256, IntKind.u8.wrap (((UInt8.ofNat n.val).toNat : Int).tdiv 16) = (((UInt8.ofNat n.val).toNat / 16 : Nat) : Int) := by decide +kernel
  simpa using h ⟨c.toNat, c.toNat_lt⟩
theorem rem16 (c : UInt8) : ((c.toNat : Int).tmod 16) = ((c.toNat % 16 : Nat) : Int) := rfl
theorem shr4 (c : UInt8) : (c.toNat : Int).fdiv (2 ^ (min (4 : Int).toNat IntKind.u8.bits)) = ((c.toNat / 16 : Nat) : Int) := by
  have h : ∀ n : Fin 256, ((UInt8.ofNat n.val).toNat : Int).fdiv (2 ^ (min (4 : Int).toNat IntKind.u8.bits)) = (((UInt8.ofNat n.val).toNat / 16 : Nat) : Int) := by decide +kernel
  simpa using h ⟨c.toNat, c.toNat_lt⟩
theorem and15 (c : UInt8) : bits .and .u8 (c.toNat : Int) 15 = ((c.toNat % 16 : Nat) : Int) := by
  have h : ∀ n : Fin 256, bits .and .u8 ((UInt8.ofNat n.val).toNat : Int) 15 = (((UInt8.ofNat n.val).toNat % 16 : Nat) : Int) := by decide +kernel
  simpa using h ⟨c.toNat, c.toNat_lt⟩
theorem hex_at {n : Nat} (h : n < 16) : hexS[n]? = some (hexD n) := by
  have hl : hexS.length = 16 := rfl
  unfold hexD
  rw [List.getElem?_eq_getElem (by omega)]
  rfl
theorem enc1_yes {c : UInt8} (h : selfB c = true) : enc1 c = [c] := by rw [enc1, if_pos h]
theorem enc1_no {c : UInt8} (h : selfB c = false) : enc1 c = [92, hexD (c.toNat / 16), hexD (c.toNat % 16)] := by rw [enc1, h]; rfl
theorem byteV (l : List UInt8) : byteRows l = l.map fun b => [V.t (T.int .u8 (b.toNat : Int))] := rfl

theorem gt_len (w : List UInt8) : decide (((w.length : Nat) : Int) > 0) = !(w == []) := by cases w <;> simp

def c_spec_SheetWord : C := (.seq (.ops [⟨(some 2), none, (.mv (.c (.t (.str []))))⟩]) (.seq (.ops [⟨(some 8), none, (.mv (.t 0))⟩, ⟨(some 9), none, (.len true (.t 8))⟩, ⟨(some 10), none, (.bin .gtr (.t 9) (.c (.t (.int .i64 0))))⟩, ⟨(some 3), none, (.mv (.t 10))⟩]) (.seq (.seq (.ops [⟨(some 4), none, (.mv (.c (.t (.int .i64 0))))⟩]) (.block 0 (.loop (.seq (.seq (.ops [⟨(some 11), none, (.mv (.t 4))⟩, ⟨(some 12), none, (.mv (.t 0))⟩, ⟨(some 13), none, (.len true (.t 12))⟩, ⟨(some 14), none, (.bin .lss (.t 11) (.t 13))⟩]) (.cond (.t 14) .skip (.exit 0))) (.seq (.block 1 (.ops [⟨(some 17), none, (.mv (.t 3))⟩, ⟨(some 18), none, (.mv (.t 17))⟩, ⟨(some 19), (some ⟨18, true⟩), (.mv (.t 0))⟩, ⟨(some 20), (some ⟨18, true⟩), (.mv (.t 4))⟩, ⟨(some 21), (some ⟨18, true⟩), (.index (.t 19) (.t 20))⟩, ⟨(some 22), (some ⟨18, true⟩), (.call (.c (.fn (.func 16) [])) [(.t 21)])⟩, ⟨(some 23), none, (.pick (.t 18) (.t 22) (.c (.t (.bool false))))⟩, ⟨(some 3), none, (.mv (.t 23))⟩])) (.ops [⟨(some 15), none, (.mv (.t 4))⟩, ⟨(some 16), none, (.bin .add (.t 15) (.c (.t (.int .i64 1))))⟩, ⟨(some 4), none, (.mv (.t 16))⟩])))))) (.seq (.seq (.ops [⟨(some 24), none, (.mv (.t 3))⟩]) (.cond (.t 24) (.seq (.ops [⟨(some 25), none, (.mv (.t 0))⟩, ⟨(some 2), none, (.mv (.t 25))⟩]) .ret) .skip)) (.seq (.ops [⟨(some 26), none, (.lit none 1 1 [(.t (.int .u8 0))] [⟨0, (.c (.t (.int .u8 34)))⟩])⟩, ⟨(some 5), none, (.mv (.t 26))⟩]) (.seq (.ops [⟨(some 6), none, (.mv (.c (.t (.str [48, 49, 50, 51, 52, 53, 54, 55, 56, 57, 97, 98, 99, 100, 101, 102]))))⟩]) (.seq (.seq (.ops [⟨(some 7), none, (.mv (.c (.t (.int .i64 0))))⟩]) (.block 2 (.loop (.seq (.seq (.ops [⟨(some 27), none, (.mv (.t 7))⟩, ⟨(some 28), none, (.mv (.t 0))⟩, ⟨(some 29), none, (.len true (.t 28))⟩, ⟨(some 30), none, (.bin .lss (.t 27) (.t 29))⟩]) (.cond (.t 30) .skip (.exit 2))) (.seq (.block 3 (.seq (.ops [⟨(some 33), none, (.mv (.t 0))⟩, ⟨(some 34), none, (.mv (.t 7))⟩, ⟨(some 35), none, (.index (.t 33) (.t 34))⟩, ⟨(some 36), none, (.bin .geq (.t 35) (.c (.t (.int .u8 32))))⟩, ⟨(some 37), none, (.mv (.t 36))⟩, ⟨(some 38), (some ⟨37, true⟩), (.mv (.t 0))⟩, ⟨(some 39), (some ⟨37, true⟩), (.mv (.t 7))⟩, ⟨(some 40), (some ⟨37, true⟩), (.index (.t 38) (.t 39))⟩, ⟨(some 41), (some ⟨37, true⟩), (.bin .leq (.t 40) (.c (.t (.int .u8 126))))⟩, ⟨(some 42), none, (.pick (.t 37) (.t 41) (.c (.t (.bool false))))⟩, ⟨(some 43), none, (.mv (.t 42))⟩, ⟨(some 44), (some ⟨43, true⟩), (.mv (.t 0))⟩, ⟨(some 45), (some ⟨43, true⟩), (.mv (.t 7))⟩, ⟨(some 46), (some ⟨43, true⟩), (.index (.t 44) (.t 45))⟩, ⟨(some 47), (some ⟨43, true⟩), (.bin .neq (.t 46) (.c (.t (.int .u8 34))))⟩, ⟨(some 48), none, (.pick (.t 43) (.t 47) (.c (.t (.bool false))))⟩, ⟨(some 49), none, (.mv (.t 48))⟩, ⟨(some 50), (some ⟨49, true⟩), (.mv (.t 0))⟩, ⟨(some 51), (some ⟨49, true⟩), (.mv (.t 7))⟩, ⟨(some 52), (some ⟨49, true⟩), (.index (.t 50) (.t 51))⟩, ⟨(some 53), (some ⟨49, true⟩), (.bin .neq (.t 52) (.c (.t (.int .u8 92))))⟩, ⟨(some 54), none, (.pick (.t 49) (.t 53) (.c (.t (.bool false))))⟩]) (.cond (.t 54) (.ops [⟨(some 55), none, (.mv (.t 5))⟩, ⟨(some 56), none, (.mv (.t 0))⟩, ⟨(some 57), none, (.mv (.t 7))⟩, ⟨(some 58), none, (.index (.t 56) (.t 57))⟩, ⟨(some 59), none, (.lit none 1 1 [(.t (.int .u8 0))] [⟨0, (.t 58)⟩])⟩, ⟨(some 60), none, (.append 1 1 (.t 55) (.t 59))⟩, ⟨(some 5), none, (.mv (.t 60))⟩]) (.drawn [(.mk 0 false ⟨(some 61), none, (.mv (.t 5))⟩), (.mk 1 false ⟨(some 62), none, (.mv (.t 6))⟩), (.mk 2 false ⟨(some 63), none, (.mv (.t 0))⟩), (.mk 3 false ⟨(some 64), none, (.mv (.t 7))⟩), (.mk 4 false ⟨(some 65), none, (.index (.t 63) (.t 64))⟩), (.mk 5 false ⟨(some 66), none, (.bin .quo (.t 65) (.c (.t (.int .u8 16))))⟩), (.mk 6 false ⟨(some 67), none, (.index (.t 62) (.t 66))⟩), (.mk 7 false ⟨(some 68), none, (.mv (.t 6))⟩), (.mk 8 false ⟨(some 69), none, (.mv (.t 0))⟩), (.mk 9 false ⟨(some 70), none, (.mv (.t 7))⟩), (.mk 10 false ⟨(some 71), none, (.index (.t 69) (.t 70))⟩), (.mk 11 false ⟨(some 72), none, (.bin .rem (.t 71) (.c (.t (.int .u8 16))))⟩), (.mk 12 false ⟨(some 73), none, (.index (.t 68) (.t 72))⟩), (.mk 13 false ⟨(some 74), none, (.lit (some false) 1 3 [(.t (.int .u8 0))] [⟨0, (.c (.t (.int .u8 92)))⟩, ⟨1, (.t 67)⟩, ⟨2, (.t 73)⟩])⟩), (.mk 14 false ⟨(some 75), none, (.append 1 1 (.t 61) (.t 74))⟩), (.mk 15 true ⟨(some 5), none, (.mv (.t 75))⟩)])))) (.ops [⟨(some 31), none, (.mv (.t 7))⟩, ⟨(some 32), none, (.bin .add (.t 31) (.c (.t (.int .i64 1))))⟩, ⟨(some 7), none, (.mv (.t 32))⟩])))))) (.seq (.ops [⟨(some 76), none, (.mv (.t 5))⟩, ⟨(some 77), none, (.lit none 1 1 [(.t (.int .u8 0))] [⟨0, (.c (.t (.int .u8 34)))⟩])⟩, ⟨(some 78), none, (.append 1 1 (.t 76) (.t 77))⟩, ⟨(some 79), none, (.bytesStr (.t 78))⟩, ⟨(some 2), none, (.mv (.t 79))⟩]) .ret))))))))
theorem k_spec_SheetWord : comp Try.prog 80 (Try.f6.body.getD .skip) = some c_spec_SheetWord := by kernel_rfl

theorem spec_SheetWord0 (w : List UInt8) (hw : w.length ≤ 1048576)  (σ : Store) : ACalls Try.prog 6 [.t (.str (w))] σ fun rr σ' => rr = .t (.str (encW w)) ∧ σ' = σ := by
  refine acalls_of Try.func6 (by decide +kernel) (code := Try.f6.body.getD .skip) (n := 80) (c := c_spec_SheetWord) (rs := [(.tmp 2)]) rfl rfl k_spec_SheetWord (by kernel_rfl) (by simp) (fun hσ => ?_)
  have hh : True := trivial
  have fin : ∀ {u : V} {τ : Store}, u = .t (.str (encW w)) → u.lt σ.length = true → retV σ.length (fun rr σ' => rr = .t (.str (encW w)) ∧ σ' = σ) (σ ++ τ) (some [u]) := fun h h2 => ret_same rfl hσ h2 ⟨h, rfl⟩
  have fin0 : ∀ {u : V}, u = .t (.str (encW w)) → retV σ.length (fun rr σ' => rr = .t (.str (encW w)) ∧ σ' = σ) σ (some [u]) := fun h => ret_same0 rfl ⟨h, rfl⟩
  simp -implicitDefEqProofs only [c_spec_SheetWord, S0, S1, S2, S3, S4, S5, S6, S7, S8, S9, S10, S11, S12, S13, S14, S15, S16, S17, opv, opvs, eget, env0, setD, lenStr, lenSl, isNilP, isNilS, putAt, if_true, if_false, reduceCtorEq, Nat.reduceLeDiff, Nat.reduceEqDiff, Nat.reduceSub, Nat.reduceMul, Nat.reduceAdd]
  refine loop_p [3, 4, 0] [0] (fun k : Nat => [(3, .t (.bool (!(w == []) && (w.take k).all bareB))), (4, .t (.int .i64 (k : Nat)))]) (fun k => k ≤ w.length) (fun k => w.length - k) 0 (by simp) (Nat.zero_le _) (by simp only [keep, eget, reduceCtorEq, Nat.reduceEqDiff, if_true, if_false, List.take_zero, List.all_nil, Bool.and_true, List.append_nil, List.cons_append, List.nil_append, gt_len]; rfl) ?_
  rintro k hk
  simp -implicitDefEqProofs only [keep, S0, S1, S2, S3, S4, S5, S6, S7, S8, S9, S10, S11, S12, S13, S14, S15, S16, S17, opv, opvs, eget, env0, setD, lenStr, lenSl, isNilP, isNilS, putAt, if_true, if_false, reduceCtorEq, Nat.reduceLeDiff, Nat.reduceEqDiff, Nat.reduceSub, Nat.reduceMul, Nat.reduceAdd]
  refine cond_split (fun h1 => ?_) (fun h1 => ?_)
  · obtain ⟨x, hx, hlt⟩ := at_of h1
    have more := i64_succ (show k < 4611686018427387904 by omega)
    have hst : (w.take (k + 1)).all bareB = ((w.take k).all bareB && bareB x) := by rw [take_of hx, List.all_append]; simp
    clear h1 hh
    have hh : True := trivial
    simp -implicitDefEqProofs only [hx, nat_nn, Nat.zero_le, more, S0, S1, S2, S3, S4, S5, S6, S7, S8, S9, S10, S11, S12, S13, S14, S15, S16, S17, opv, opvs, eget, env0, setD, lenStr, lenSl, isNilP, isNilS, putAt, if_true, if_false, reduceCtorEq, Nat.reduceLeDiff, Nat.reduceEqDiff, Nat.reduceSub, Nat.reduceMul, Nat.reduceAdd]
    rcases hb : (!(w == []) && (w.take k).all bareB) with _ | _
    · have hb2 : (!(w == []) && (w.take (k + 1)).all bareB) = false := by rw [hst, ← Bool.and_assoc, hb]; rfl
      simp -implicitDefEqProofs only [hx, nat_nn, Nat.zero_le, more, hb, cond_t, cond_f, S0, S1, S2, S3, S4, S5, S6, S7, S8, S9, S10, S11, S12, S13, S14, S15, S16, S17, opv, opvs, eget, env0, setD, lenStr, lenSl, isNilP, isNilS, putAt, if_true, if_false, reduceCtorEq, Nat.reduceLeDiff, Nat.reduceEqDiff, Nat.reduceSub, Nat.reduceMul, Nat.reduceAdd]
      exact lk_p0 (k + 1) (by simp) (by simp) (by omega) (by omega) (by simp only [keep, eget, reduceCtorEq, Nat.reduceEqDiff, if_true, if_false, hb2, List.cons_append, List.nil_append])
    · have hb2 : (!(w == []) && (w.take (k + 1)).all bareB) = bareB x := by rw [hst, ← Bool.and_assoc, hb]; rfl
      simp -implicitDefEqProofs only [hx, nat_nn, Nat.zero_le, more, hb, cond_t, cond_f, S0, S1, S2, S3, S4, S5, S6, S7, S8, S9, S10, S11, S12, S13, S14, S15, S16, S17, opv, opvs, eget, env0, setD, lenStr, lenSl, isNilP, isNilS, putAt, if_true, if_false, reduceCtorEq, Nat.reduceLeDiff, Nat.reduceEqDiff, Nat.reduceSub, Nat.reduceMul, Nat.reduceAdd]
      refine call_pure (spec_l37Bare x _) ?_
      simp -implicitDefEqProofs only [hx, nat_nn, Nat.zero_le, more, hb, cond_t, cond_f, S0, S1, S2, S3, S4, S5, S6, S7, S8, S9, S10, S11, S12, S13, S14, S15, S16, S17, opv, opvs, eget, env0, setD, lenStr, lenSl, isNilP, isNilS, putAt, if_true, if_false, reduceCtorEq, Nat.reduceLeDiff, Nat.reduceEqDiff, Nat.reduceSub, Nat.reduceMul, Nat.reduceAdd]
      exact lk_p0 (k + 1) (by simp) (by simp) (by omega) (by omega) (by simp only [keep, eget, reduceCtorEq, Nat.reduceEqDiff, if_true, if_false, hb2, List.cons_append, List.nil_append])
  have hkk := end_of h1 hk
  subst hkk
  clear h1 hk
  simp -implicitDefEqProofs only [List.take_length, S0, S1, S2, S3, S4, S5, S6, S7, S8, S9, S10, S11, S12, S13, S14, S15, S16, S17, opv, opvs, eget, env0, setD, lenStr, lenSl, isNilP, isNilS, putAt, if_true, if_false, reduceCtorEq, Nat.reduceLeDiff, Nat.reduceEqDiff, Nat.reduceSub, Nat.reduceMul, Nat.reduceAdd]
  rcases hb : (!(w == []) && w.all bareB) with _ | _
  rotate_left
  · simp -implicitDefEqProofs only [hb, cond_t, cond_f, S0, S1, S2, S3, S4, S5, S6, S7, S8, S9, S10, S11, S12, S13, S14, S15, S16, S17, opv, opvs, eget, env0, setD, lenStr, lenSl, isNilP, isNilS, putAt, if_true, if_false, reduceCtorEq, Nat.reduceLeDiff, Nat.reduceEqDiff, Nat.reduceSub, Nat.reduceMul, Nat.reduceAdd]
    exact fin0 (by rw [encW, hb]; rfl)
  have hen : encW w = 34 :: (w.flatMap enc1 ++ [34]) := by rw [encW, hb]; rfl
  have c1 : 0 < 1 ∧ 0 < 3 ∧ 1 < 3 ∧ 2 < 3 := by omega
  simp -implicitDefEqProofs only [hb, cond_t, cond_f, c1, S0, S1, S2, S3, S4, S5, S6, S7, S8, S9, S10, S11, S12, S13, S14, S15, S16, S17, opv, opvs, eget, env0, setD, lenStr, lenSl, isNilP, isNilS, putAt, if_true, if_false, reduceCtorEq, Nat.reduceLeDiff, Nat.reduceEqDiff, Nat.reduceSub, Nat.reduceMul, Nat.reduceAdd]
  refine lit_own ?_
  simp -implicitDefEqProofs only [S0, S1, S2, S3, S4, S5, S6, S7, S8, S9, S10, S11, S12, S13, S14, S15, S16, S17, opv, opvs, eget, env0, setD, lenStr, lenSl, isNilP, isNilS, putAt, if_true, if_false, reduceCtorEq, Nat.reduceLeDiff, Nat.reduceEqDiff, Nat.reduceSub, Nat.reduceMul, Nat.reduceAdd]
  have h0 : OFl σ 1 (byteT [34]) (.sl σ.length 1 0 1) (σ ++ [.slc 1 [[.t (.int .u8 34)]]]) [σ.length] := OFl.flatObj (by omega) (byteT_flat _) rfl
  refine loop_g [5, 7, 0, 6] [0, 6] (fun g : Ga => [(5, g.v), (7, .t (.int .i64 (g.k : Nat)))]) (fun g => g.s) (fun g => g.k ≤ w.length ∧ OFl σ 1 (byteT (34 :: (w.take g.k).flatMap enc1)) g.v g.s g.is) (fun g => w.length - g.k) ⟨0, .sl σ.length 1 0 1, σ ++ [.slc 1 [[.t (.int .u8 34)]]], [σ.length]⟩ (by simp) ⟨Nat.zero_le _, by simpa using h0⟩ rfl rfl ?_
  rintro ⟨k, v, s, is⟩ ⟨hk, hof⟩
  simp only at hk hof
  have hbl : σ.length ≤ s.length := hof.le
  simp -implicitDefEqProofs only [keep, S0, S1, S2, S3, S4, S5, S6, S7, S8, S9, S10, S11, S12, S13, S14, S15, S16, S17, opv, opvs, eget, env0, setD, lenStr, lenSl, isNilP, isNilS, putAt, if_true, if_false, reduceCtorEq, Nat.reduceLeDiff, Nat.reduceEqDiff, Nat.reduceSub, Nat.reduceMul, Nat.reduceAdd]
  have hlen : ((w.take k).flatMap enc1).length ≤ 3 * k := by
    have : ∀ l : List UInt8, (l.flatMap enc1).length ≤ 3 * l.length := by
      intro l
      induction l with
      | nil => simp
      | cons a l ih =>
        have : (enc1 a).length ≤ 3 := by unfold enc1; split <;> simp
        rw [List.flatMap_cons, List.length_append, List.length_cons]
        omega
    have h2 := this (w.take k)
    rw [List.length_take] at h2
    omega
  refine cond_split (fun h1 => ?_) (fun h1 => ?_)
  · obtain ⟨x, hx, hlt⟩ := at_of h1
    have more := i64_succ (show k < 4611686018427387904 by omega)
    have hst : (w.take (k + 1)).flatMap enc1 = (w.take k).flatMap enc1 ++ enc1 x := by rw [take_of hx, List.flatMap_append]; simp
    have q1 := hex_at (show x.toNat / 16 < 16 by have := x.toNat_lt; omega)
    have q2 := hex_at (show x.toNat % 16 < 16 by omega)
    simp only [hexS] at q1 q2
    clear h1 hh
    have hh : True := trivial
    have n16 : ((16 : Int) ≠ 0) = True := by simp
    have n4 : ((0 : Int) ≤ 4) = True := by simp
    have hrow1 : (([[V.t (.int .u8 (x.toNat : Int))]] : List (List V)).all fun r => r.all one) = true := rfl
    have hrow3 : (([[V.t (.int .u8 92)], [V.t (.int .u8 ((hexD (x.toNat / 16)).toNat : Int))], [V.t (.int .u8 ((hexD (x.toNat % 16)).toNat : Int))]] : List (List V)).all fun r => r.all one) = true := rfl
    have e1 : ([[V.t (.int .u8 (x.toNat : Int))]] : List (List V)) = (byteT [x]).map fun r => r.map .t := rfl
    have e3 : ([[V.t (.int .u8 92)], [V.t (.int .u8 ((hexD (x.toNat / 16)).toNat : Int))], [V.t (.int .u8 ((hexD (x.toNat % 16)).toNat : Int))]] : List (List V)) = (byteT [92, hexD (x.toNat / 16), hexD (x.toNat % 16)]).map fun r => r.map .t := rfl
    have b1 : ∀ m, m ≤ 3 → ((byteT (34 :: (w.take k).flatMap enc1)).length + m) * 1 ≤ maxBy ∧ (byteT (34 :: (w.take k).flatMap enc1)).length + m ≤ 9223372036854775807 := by
      intro m hm
      rw [byteT_len, List.length_cons]
      simp only [maxBy]
      omega
    simp -implicitDefEqProofs only [hx, nat_nn, Nat.zero_le, quo16, rem16, shr4, and15, n16, n4, q1, q2, c1, more, S0, S1, S2, S3, S4, S5, S6, S7, S8, S9, S10, S11, S12, S13, S14, S15, S16, S17, opv, opvs, eget, env0, setD, lenStr, lenSl, isNilP, isNilS, putAt, if_true, if_false, reduceCtorEq, Nat.reduceLeDiff, Nat.reduceEqDiff, Nat.reduceSub, Nat.reduceMul, Nat.reduceAdd]
    have yes : ∀ rs : List UInt8, enc1 x = rs → byteT (34 :: (w.take k).flatMap enc1) ++ byteT rs = byteT (34 :: (w.take (k + 1)).flatMap enc1) := by
      rintro rs rfl
      rw [hst, ← byteT_app]
      rfl
    repeat' (first
      | ((with_reducible refine cond_known (fun h => ?_) (fun h => ?_)) <;> (replace hh := And.intro h hh; clear h; simp -implicitDefEqProofs only [hh, cond_t, cond_f, hx, nat_nn, Nat.zero_le, quo16, rem16, shr4, and15, n16, n4, q1, q2, c1, more, S0, S1, S2, S3, S4, S5, S6, S7, S8, S9, S10, S11, S12, S13, S14, S15, S16, S17, opv, opvs, eget, env0, setD, lenStr, lenSl, isNilP, isNilS, putAt, if_true, if_false, reduceCtorEq, Nat.reduceLeDiff, Nat.reduceEqDiff, Nat.reduceSub, Nat.reduceMul, Nat.reduceAdd]))
      | ((with_reducible refine call_pure (impl_selfByte x _) ?_); simp -implicitDefEqProofs only [hh, cond_t, cond_f, hx, nat_nn, Nat.zero_le, quo16, rem16, shr4, and15, n16, n4, q1, q2, c1, more, S0, S1, S2, S3, S4, S5, S6, S7, S8, S9, S10, S11, S12, S13, S14, S15, S16, S17, opv, opvs, eget, env0, setD, lenStr, lenSl, isNilP, isNilS, putAt, if_true, if_false, reduceCtorEq, Nat.reduceLeDiff, Nat.reduceEqDiff, Nat.reduceSub, Nat.reduceMul, Nat.reduceAdd])
      | (refine lit_rows ?_; simp -implicitDefEqProofs only [hh, cond_t, cond_f, q_rows_r _ _ hrow1, S0, S1, S2, S3, S4, S5, S6, S7, S8, S9, S10, S11, S12, S13, S14, S15, S16, S17, opv, opvs, eget, env0, setD, lenStr, lenSl, isNilP, isNilS, putAt, if_true, if_false, reduceCtorEq, Nat.reduceLeDiff, Nat.reduceEqDiff, Nat.reduceSub, Nat.reduceMul, Nat.reduceAdd])
      | (rw [q_rows_r _ _ hrow3]; simp -implicitDefEqProofs only [hh, cond_t, cond_f, S0, S1, S2, S3, S4, S5, S6, S7, S8, S9, S10, S11, S12, S13, S14, S15, S16, S17, opv, opvs, eget, env0, setD, lenStr, lenSl, isNilP, isNilS, putAt, if_true, if_false, reduceCtorEq, Nat.reduceLeDiff, Nat.reduceEqDiff, Nat.reduceSub, Nat.reduceMul, Nat.reduceAdd])
      | (rw [e1]; refine hof.apps (byteT_flat _) (by simp [byteT]) (b1 1 (by omega)).1 (b1 1 (by omega)).2 ?_; intro v' s' is' hle hof'; rw [yes [x] (enc1_yes (by (try simp only [Known] at hh); grind [selfB]))] at hof'; (try simp -implicitDefEqProofs only [hh, more, S0, S1, S2, S3, S4, S5, S6, S7, S8, S9, S10, S11, S12, S13, S14, S15, S16, S17, opv, opvs, eget, env0, setD, lenStr, lenSl, isNilP, isNilS, putAt, if_true, if_false, reduceCtorEq, Nat.reduceLeDiff, Nat.reduceEqDiff, Nat.reduceSub, Nat.reduceMul, Nat.reduceAdd]); exact lk_g ⟨k + 1, v', s', is'⟩ (by simp only; omega) ⟨by simp only; omega, hof'⟩ hof'.le rfl rfl)
      | (rw [e3]; refine hof.apps (byteT_flat _) (by simp [byteT]) (b1 3 (by omega)).1 (b1 3 (by omega)).2 ?_; intro v' s' is' hle hof'; rw [yes [92, hexD (x.toNat / 16), hexD (x.toNat % 16)] (enc1_no (by (try simp only [Known] at hh); grind [selfB]))] at hof'; (try simp -implicitDefEqProofs only [hh, more, S0, S1, S2, S3, S4, S5, S6, S7, S8, S9, S10, S11, S12, S13, S14, S15, S16, S17, opv, opvs, eget, env0, setD, lenStr, lenSl, isNilP, isNilS, putAt, if_true, if_false, reduceCtorEq, Nat.reduceLeDiff, Nat.reduceEqDiff, Nat.reduceSub, Nat.reduceMul, Nat.reduceAdd]); exact lk_g ⟨k + 1, v', s', is'⟩ (by simp only; omega) ⟨by simp only; omega, hof'⟩ hof'.le rfl rfl))
  · have hkk := end_of h1 hk
    subst hkk
    rw [List.take_length] at hof
    simp -implicitDefEqProofs only [c1, S0, S1, S2, S3, S4, S5, S6, S7, S8, S9, S10, S11, S12, S13, S14, S15, S16, S17, opv, opvs, eget, env0, setD, lenStr, lenSl, isNilP, isNilS, putAt, if_true, if_false, reduceCtorEq, Nat.reduceLeDiff, Nat.reduceEqDiff, Nat.reduceSub, Nat.reduceMul, Nat.reduceAdd]
    refine lit_rows ?_
    have hrow : (([[V.t (.int .u8 34)]] : List (List V)).all fun r => r.all one) = true := rfl
    simp -implicitDefEqProofs only [q_rows_r _ _ hrow, S0, S1, S2, S3, S4, S5, S6, S7, S8, S9, S10, S11, S12, S13, S14, S15, S16, S17, opv, opvs, eget, env0, setD, lenStr, lenSl, isNilP, isNilS, putAt, if_true, if_false, reduceCtorEq, Nat.reduceLeDiff, Nat.reduceEqDiff, Nat.reduceSub, Nat.reduceMul, Nat.reduceAdd]
    have e1 : ([[V.t (.int .u8 34)]] : List (List V)) = (byteT [34]).map fun r => r.map .t := rfl
    rw [e1]
    have hl2 : (w.flatMap enc1).length ≤ 3 * w.length := by rw [List.take_length] at hlen; exact hlen
    refine hof.apps (byteT_flat _) (by simp [byteT]) (by rw [byteT_len, List.length_cons]; simp only [maxBy, byteT_len, List.length_cons, List.length_nil]; omega) (by rw [byteT_len, List.length_cons, byteT_len, List.length_cons, List.length_nil]; omega) ?_
    intro v' s' is' hle hof'
    rw [← byteT_app] at hof'
    have hby := hof'.bytes
    obtain ⟨τ, rfl⟩ := OFl.same (B := []) (by rw [List.append_nil]; exact hof')
    simp -implicitDefEqProofs only [hby, q_bytesOf_rows, S0, S1, S2, S3, S4, S5, S6, S7, S8, S9, S10, S11, S12, S13, S14, S15, S16, S17, opv, opvs, eget, env0, setD, lenStr, lenSl, isNilP, isNilS, putAt, if_true, if_false, reduceCtorEq, Nat.reduceLeDiff, Nat.reduceEqDiff, Nat.reduceSub, Nat.reduceMul, Nat.reduceAdd]
    exact fin (congrArg (fun l => V.t (T.str l)) hen.symm) rfl

def c_impl_SheetWord : C := (.seq (.ops [⟨(some 2), none, (.mv (.c (.t (.str []))))⟩]) (.seq (.ops [⟨(some 8), none, (.mv (.t 0))⟩, ⟨(some 9), none, (.bin .neq (.t 8) (.c (.t (.str []))))⟩, ⟨(some 3), none, (.mv (.t 9))⟩]) (.seq (.seq (.ops [⟨(some 10), none, (.mv (.t 0))⟩, ⟨(some 11), none, (.len true (.t 10))⟩, ⟨(some 12), none, (.mv (.c (.t (.int .i64 0))))⟩]) (.block 0 (.loop (.seq (.ops [⟨(some 13), none, (.bin .lss (.t 12) (.t 11))⟩]) (.seq (.cond (.t 13) .skip (.exit 0)) (.seq (.block 1 (.seq (.ops [⟨(some 14), none, (.mv (.t 12))⟩, ⟨(some 4), none, (.mv (.t 14))⟩]) (.ops [⟨(some 15), none, (.mv (.t 3))⟩, ⟨(some 16), none, (.mv (.t 15))⟩, ⟨(some 17), (some ⟨16, true⟩), (.mv (.t 0))⟩, ⟨(some 18), (some ⟨16, true⟩), (.mv (.t 4))⟩, ⟨(some 19), (some ⟨16, true⟩), (.index (.t 17) (.t 18))⟩, ⟨(some 20), (some ⟨16, true⟩), (.call (.c (.fn (.func 17) [])) [(.t 19)])⟩, ⟨(some 21), none, (.pick (.t 16) (.t 20) (.c (.t (.bool false))))⟩, ⟨(some 3), none, (.mv (.t 21))⟩]))) (.ops [⟨(some 22), none, (.bin .add (.t 12) (.c (.t (.int .i64 1))))⟩, ⟨(some 12), none, (.mv (.t 22))⟩]))))))) (.seq (.seq (.ops [⟨(some 23), none, (.mv (.t 3))⟩]) (.cond (.t 23) (.seq (.ops [⟨(some 24), none, (.mv (.t 0))⟩, ⟨(some 2), none, (.mv (.t 24))⟩]) .ret) .skip)) (.seq (.ops [⟨(some 25), none, (.lit none 1 1 [(.t (.int .u8 0))] [⟨0, (.c (.t (.int .u8 34)))⟩])⟩, ⟨(some 5), none, (.mv (.t 25))⟩]) (.seq (.seq (.ops [⟨(some 26), none, (.mv (.t 0))⟩, ⟨(some 27), none, (.len true (.t 26))⟩, ⟨(some 28), none, (.mv (.c (.t (.int .i64 0))))⟩]) (.block 2 (.loop (.seq (.ops [⟨(some 29), none, (.bin .lss (.t 28) (.t 27))⟩]) (.seq (.cond (.t 29) .skip (.exit 2)) (.seq (.block 3 (.seq (.ops [⟨(some 30), none, (.mv (.t 28))⟩, ⟨(some 6), none, (.mv (.t 30))⟩]) (.seq (.ops [⟨(some 31), none, (.mv (.t 0))⟩, ⟨(some 32), none, (.mv (.t 6))⟩, ⟨(some 33), none, (.index (.t 31) (.t 32))⟩, ⟨(some 7), none, (.mv (.t 33))⟩]) (.seq (.ops [⟨(some 34), none, (.mv (.t 7))⟩, ⟨(some 35), none, (.call (.c (.fn (.func 18) [])) [(.t 34)])⟩]) (.cond (.t 35) (.ops [⟨(some 36), none, (.mv (.t 5))⟩, ⟨(some 37), none, (.mv (.t 7))⟩, ⟨(some 38), none, (.lit none 1 1 [(.t (.int .u8 0))] [⟨0, (.t 37)⟩])⟩, ⟨(some 39), none, (.append 1 1 (.t 36) (.t 38))⟩, ⟨(some 5), none, (.mv (.t 39))⟩]) (.drawn [(.mk 0 false ⟨(some 40), none, (.mv (.t 5))⟩), (.mk 1 false ⟨(some 41), none, (.mv (.t 7))⟩), (.mk 2 false ⟨(some 42), none, (.bin .shr (.t 41) (.c (.t (.int .u64 4))))⟩), (.mk 3 false ⟨(some 43), none, (.index (.c (.t (.str [48, 49, 50, 51, 52, 53, 54, 55, 56, 57, 97, 98, 99, 100, 101, 102]))) (.t 42))⟩), (.mk 4 false ⟨(some 44), none, (.mv (.t 7))⟩), (.mk 5 false ⟨(some 45), none, (.bin .and (.t 44) (.c (.t (.int .u8 15))))⟩), (.mk 6 false ⟨(some 46), none, (.index (.c (.t (.str [48, 49, 50, 51, 52, 53, 54, 55, 56, 57, 97, 98, 99, 100, 101, 102]))) (.t 45))⟩), (.mk 7 false ⟨(some 47), none, (.lit (some false) 1 3 [(.t (.int .u8 0))] [⟨0, (.c (.t (.int .u8 92)))⟩, ⟨1, (.t 43)⟩, ⟨2, (.t 46)⟩])⟩), (.mk 8 false ⟨(some 48), none, (.append 1 1 (.t 40) (.t 47))⟩), (.mk 9 true ⟨(some 5), none, (.mv (.t 48))⟩)])))))) (.ops [⟨(some 49), none, (.bin .add (.t 28) (.c (.t (.int .i64 1))))⟩, ⟨(some 28), none, (.mv (.t 49))⟩]))))))) (.seq (.ops [⟨(some 50), none, (.mv (.t 5))⟩, ⟨(some 51), none, (.lit none 1 1 [(.t (.int .u8 0))] [⟨0, (.c (.t (.int .u8 34)))⟩])⟩, ⟨(some 52), none, (.append 1 1 (.t 50) (.t 51))⟩, ⟨(some 53), none, (.bytesStr (.t 52))⟩, ⟨(some 2), none, (.mv (.t 53))⟩]) .ret)))))))
theorem k_impl_SheetWord : comp Try.prog 54 (Try.f7.body.getD .skip) = some c_impl_SheetWord := by kernel_rfl

theorem impl_SheetWord0 (w : List UInt8) (hw : w.length ≤ 1048576)  (σ : Store) : ACalls Try.prog 7 [.t (.str (w))] σ fun rr σ' => rr = .t (.str (encW w)) ∧ σ' = σ := by
  refine acalls_of Try.func7 (by decide +kernel) (code := Try.f7.body.getD .skip) (n := 54) (c := c_impl_SheetWord) (rs := [(.tmp 2)]) rfl rfl k_impl_SheetWord (by kernel_rfl) (by simp) (fun hσ => ?_)
  have hh : True := trivial
  have fin : ∀ {u : V} {τ : Store}, u = .t (.str (encW w)) → u.lt σ.length = true → retV σ.length (fun rr σ' => rr = .t (.str (encW w)) ∧ σ' = σ) (σ ++ τ) (some [u]) := fun h h2 => ret_same rfl hσ h2 ⟨h, rfl⟩
  have fin0 : ∀ {u : V}, u = .t (.str (encW w)) → retV σ.length (fun rr σ' => rr = .t (.str (encW w)) ∧ σ' = σ) σ (some [u]) := fun h => ret_same0 rfl ⟨h, rfl⟩
  simp -implicitDefEqProofs only [c_impl_SheetWord, S0, S1, S2, S3, S4, S5, S6, S7, S8, S9, S10, S11, S12, S13, S14, S15, S16, S17, opv, opvs, eget, env0, setD, lenStr, lenSl, isNilP, isNilS, putAt, if_true, if_false, reduceCtorEq, Nat.reduceLeDiff, Nat.reduceEqDiff, Nat.reduceSub, Nat.reduceMul, Nat.reduceAdd]
  refine loop_p [3, 12, 0, 11] [0, 11] (fun k : Nat => [(3, .t (.bool (!(w == []) && (w.take k).all bareB))), (12, .t (.int .i64 (k : Nat)))]) (fun k => k ≤ w.length) (fun k => w.length - k) 0 (by simp) (Nat.zero_le _) (by simp only [keep, eget, reduceCtorEq, Nat.reduceEqDiff, if_true, if_false, List.take_zero, List.all_nil, Bool.and_true, List.append_nil, List.cons_append, List.nil_append, gt_len]; rfl) ?_
  rintro k hk
  simp -implicitDefEqProofs only [keep, S0, S1, S2, S3, S4, S5, S6, S7, S8, S9, S10, S11, S12, S13, S14, S15, S16, S17, opv, opvs, eget, env0, setD, lenStr, lenSl, isNilP, isNilS, putAt, if_true, if_false, reduceCtorEq, Nat.reduceLeDiff, Nat.reduceEqDiff, Nat.reduceSub, Nat.reduceMul, Nat.reduceAdd]
  refine cond_split (fun h1 => ?_) (fun h1 => ?_)
  · obtain ⟨x, hx, hlt⟩ := at_of h1
    have more := i64_succ (show k < 4611686018427387904 by omega)
    have hst : (w.take (k + 1)).all bareB = ((w.take k).all bareB && bareB x) := by rw [take_of hx, List.all_append]; simp
    clear h1 hh
    have hh : True := trivial
    simp -implicitDefEqProofs only [hx, nat_nn, Nat.zero_le, more, S0, S1, S2, S3, S4, S5, S6, S7, S8, S9, S10, S11, S12, S13, S14, S15, S16, S17, opv, opvs, eget, env0, setD, lenStr, lenSl, isNilP, isNilS, putAt, if_true, if_false, reduceCtorEq, Nat.reduceLeDiff, Nat.reduceEqDiff, Nat.reduceSub, Nat.reduceMul, Nat.reduceAdd]
    rcases hb : (!(w == []) && (w.take k).all bareB) with _ | _
    · have hb2 : (!(w == []) && (w.take (k + 1)).all bareB) = false := by rw [hst, ← Bool.and_assoc, hb]; rfl
      simp -implicitDefEqProofs only [hx, nat_nn, Nat.zero_le, more, hb, cond_t, cond_f, S0, S1, S2, S3, S4, S5, S6, S7, S8, S9, S10, S11, S12, S13, S14, S15, S16, S17, opv, opvs, eget, env0, setD, lenStr, lenSl, isNilP, isNilS, putAt, if_true, if_false, reduceCtorEq, Nat.reduceLeDiff, Nat.reduceEqDiff, Nat.reduceSub, Nat.reduceMul, Nat.reduceAdd]
      exact lk_p0 (k + 1) (by simp) (by simp) (by omega) (by omega) (by simp only [keep, eget, reduceCtorEq, Nat.reduceEqDiff, if_true, if_false, hb2, List.cons_append, List.nil_append])
    · have hb2 : (!(w == []) && (w.take (k + 1)).all bareB) = bareB x := by rw [hst, ← Bool.and_assoc, hb]; rfl
      simp -implicitDefEqProofs only [hx, nat_nn, Nat.zero_le, more, hb, cond_t, cond_f, S0, S1, S2, S3, S4, S5, S6, S7, S8, S9, S10, S11, S12, S13, S14, S15, S16, S17, opv, opvs, eget, env0, setD, lenStr, lenSl, isNilP, isNilS, putAt, if_true, if_false, reduceCtorEq, Nat.reduceLeDiff, Nat.reduceEqDiff, Nat.reduceSub, Nat.reduceMul, Nat.reduceAdd]
      refine call_pure (impl_bareByte x _) ?_
      simp -implicitDefEqProofs only [hx, nat_nn, Nat.zero_le, more, hb, cond_t, cond_f, S0, S1, S2, S3, S4, S5, S6, S7, S8, S9, S10, S11, S12, S13, S14, S15, S16, S17, opv, opvs, eget, env0, setD, lenStr, lenSl, isNilP, isNilS, putAt, if_true, if_false, reduceCtorEq, Nat.reduceLeDiff, Nat.reduceEqDiff, Nat.reduceSub, Nat.reduceMul, Nat.reduceAdd]
      exact lk_p0 (k + 1) (by simp) (by simp) (by omega) (by omega) (by simp only [keep, eget, reduceCtorEq, Nat.reduceEqDiff, if_true, if_false, hb2, List.cons_append, List.nil_append])
  have hkk := end_of h1 hk
  subst hkk
  clear h1 hk
  simp -implicitDefEqProofs only [List.take_length, S0, S1, S2, S3, S4, S5, S6, S7, S8, S9, S10, S11, S12, S13, S14, S15, S16, S17, opv, opvs, eget, env0, setD, lenStr, lenSl, isNilP, isNilS, putAt, if_true, if_false, reduceCtorEq, Nat.reduceLeDiff, Nat.reduceEqDiff, Nat.reduceSub, Nat.reduceMul, Nat.reduceAdd]
  rcases hb : (!(w == []) && w.all bareB) with _ | _
  rotate_left
  · simp -implicitDefEqProofs only [hb, cond_t, cond_f, S0, S1, S2, S3, S4, S5, S6, S7, S8, S9, S10, S11, S12, S13, S14, S15, S16, S17, opv, opvs, eget, env0, setD, lenStr, lenSl, isNilP, isNilS, putAt, if_true, if_false, reduceCtorEq, Nat.reduceLeDiff, Nat.reduceEqDiff, Nat.reduceSub, Nat.reduceMul, Nat.reduceAdd]
    exact fin0 (by rw [encW, hb]; rfl)
  have hen : encW w = 34 :: (w.flatMap enc1 ++ [34]) := by rw [encW, hb]; rfl
  have c1 : 0 < 1 ∧ 0 < 3 ∧ 1 < 3 ∧ 2 < 3 := by omega
  simp -implicitDefEqProofs only [hb, cond_t, cond_f, c1, S0, S1, S2, S3, S4, S5, S6, S7, S8, S9, S10, S11, S12, S13, S14, S15, S16, S17, opv, opvs, eget, env0, setD, lenStr, lenSl, isNilP, isNilS, putAt, if_true, if_false, reduceCtorEq, Nat.reduceLeDiff, Nat.reduceEqDiff, Nat.reduceSub, Nat.reduceMul, Nat.reduceAdd]
  refine lit_own ?_
  simp -implicitDefEqProofs only [S0, S1, S2, S3, S4, S5, S6, S7, S8, S9, S10, S11, S12, S13, S14, S15, S16, S17, opv, opvs, eget, env0, setD, lenStr, lenSl, isNilP, isNilS, putAt, if_true, if_false, reduceCtorEq, Nat.reduceLeDiff, Nat.reduceEqDiff, Nat.reduceSub, Nat.reduceMul, Nat.reduceAdd]
  have h0 : OFl σ 1 (byteT [34]) (.sl σ.length 1 0 1) (σ ++ [.slc 1 [[.t (.int .u8 34)]]]) [σ.length] := OFl.flatObj (by omega) (byteT_flat _) rfl
  refine loop_g [5, 28, 0, 27] [0, 27] (fun g : Ga => [(5, g.v), (28, .t (.int .i64 (g.k : Nat)))]) (fun g => g.s) (fun g => g.k ≤ w.length ∧ OFl σ 1 (byteT (34 :: (w.take g.k).flatMap enc1)) g.v g.s g.is) (fun g => w.length - g.k) ⟨0, .sl σ.length 1 0 1, σ ++ [.slc 1 [[.t (.int .u8 34)]]], [σ.length]⟩ (by simp) ⟨Nat.zero_le _, by simpa using h0⟩ rfl rfl ?_
  rintro ⟨k, v, s, is⟩ ⟨hk, hof⟩
  simp only at hk hof
  have hbl : σ.length ≤ s.length := hof.le
  simp -implicitDefEqProofs only [keep, S0, S1, S2, S3, S4, S5, S6, S7, S8, S9, S10, S11, S12, S13, S14, S15, S16, S17, opv, opvs, eget, env0, setD, lenStr, lenSl, isNilP, isNilS, putAt, if_true, if_false, reduceCtorEq, Nat.reduceLeDiff, Nat.reduceEqDiff, Nat.reduceSub, Nat.reduceMul, Nat.reduceAdd]
  have hlen : ((w.take k).flatMap enc1).length ≤ 3 * k := by
    have : ∀ l : List UInt8, (l.flatMap enc1).length ≤ 3 * l.length := by
      intro l
      induction l with
      | nil => simp
      | cons a l ih =>
        have : (enc1 a).length ≤ 3 := by unfold enc1; split <;> simp
        rw [List.flatMap_cons, List.length_append, List.length_cons]
        omega
    have h2 := this (w.take k)
    rw [List.length_take] at h2
    omega
  refine cond_split (fun h1 => ?_) (fun h1 => ?_)
  · obtain ⟨x, hx, hlt⟩ := at_of h1
    have more := i64_succ (show k < 4611686018427387904 by omega)
    have hst : (w.take (k + 1)).flatMap enc1 = (w.take k).flatMap enc1 ++ enc1 x := by rw [take_of hx, List.flatMap_append]; simp
    have q1 := hex_at (show x.toNat / 16 < 16 by have := x.toNat_lt; omega)
    have q2 := hex_at (show x.toNat % 16 < 16 by omega)
    simp only [hexS] at q1 q2
    clear h1 hh
    have hh : True := trivial
    have n16 : ((16 : Int) ≠ 0) = True := by simp
    have n4 : ((0 : Int) ≤ 4) = True := by simp
    have hrow1 : (([[V.t (.int .u8 (x.toNat : Int))]] : List (List V)).all fun r => r.all one) = true := rfl
    have hrow3 : (([[V.t (.int .u8 92)], [V.t (.int .u8 ((hexD (x.toNat / 16)).toNat : Int))], [V.t (.int .u8 ((hexD (x.toNat % 16)).toNat : Int))]] : List (List V)).all fun r => r.all one) = true := rfl
    have e1 : ([[V.t (.int .u8 (x.toNat : Int))]] : List (List V)) = (byteT [x]).map fun r => r.map .t := rfl
    have e3 : ([[V.t (.int .u8 92)], [V.t (.int .u8 ((hexD (x.toNat / 16)).toNat : Int))], [V.t (.int .u8 ((hexD (x.toNat % 16)).toNat : Int))]] : List (List V)) = (byteT [92, hexD (x.toNat / 16), hexD (x.toNat % 16)]).map fun r => r.map .t := rfl
    have b1 : ∀ m, m ≤ 3 → ((byteT (34 :: (w.take k).flatMap enc1)).length + m) * 1 ≤ maxBy ∧ (byteT (34 :: (w.take k).flatMap enc1)).length + m ≤ 9223372036854775807 := by
      intro m hm
      rw [byteT_len, List.length_cons]
      simp only [maxBy]
      omega
    simp -implicitDefEqProofs only [hx, nat_nn, Nat.zero_le, quo16, rem16, shr4, and15, n16, n4, q1, q2, c1, more, S0, S1, S2, S3, S4, S5, S6, S7, S8, S9, S10, S11, S12, S13, S14, S15, S16, S17, opv, opvs, eget, env0, setD, lenStr, lenSl, isNilP, isNilS, putAt, if_true, if_false, reduceCtorEq, Nat.reduceLeDiff, Nat.reduceEqDiff, Nat.reduceSub, Nat.reduceMul, Nat.reduceAdd]
    have yes : ∀ rs : List UInt8, enc1 x = rs → byteT (34 :: (w.take k).flatMap enc1) ++ byteT rs = byteT (34 :: (w.take (k + 1)).flatMap enc1) := by
      rintro rs rfl
      rw [hst, ← byteT_app]
      rfl
    repeat' (first
      | ((with_reducible refine cond_known (fun h => ?_) (fun h => ?_)) <;> (replace hh := And.intro h hh; clear h; simp -implicitDefEqProofs only [hh, cond_t, cond_f, hx, nat_nn, Nat.zero_le, quo16, rem16, shr4, and15, n16, n4, q1, q2, c1, more, S0, S1, S2, S3, S4, S5, S6, S7, S8, S9, S10, S11, S12, S13, S14, S15, S16, S17, opv, opvs, eget, env0, setD, lenStr, lenSl, isNilP, isNilS, putAt, if_true, if_false, reduceCtorEq, Nat.reduceLeDiff, Nat.reduceEqDiff, Nat.reduceSub, Nat.reduceMul, Nat.reduceAdd]))
      | ((with_reducible refine call_pure (impl_selfByte x _) ?_); simp -implicitDefEqProofs only [hh, cond_t, cond_f, hx, nat_nn, Nat.zero_le, quo16, rem16, shr4, and15, n16, n4, q1, q2, c1, more, S0, S1, S2, S3, S4, S5, S6, S7, S8, S9, S10, S11, S12, S13, S14, S15, S16, S17, opv, opvs, eget, env0, setD, lenStr, lenSl, isNilP, isNilS, putAt, if_true, if_false, reduceCtorEq, Nat.reduceLeDiff, Nat.reduceEqDiff, Nat.reduceSub, Nat.reduceMul, Nat.reduceAdd])
      | (refine lit_rows ?_; simp -implicitDefEqProofs only [hh, cond_t, cond_f, q_rows_r _ _ hrow1, S0, S1, S2, S3, S4, S5, S6, S7, S8, S9, S10, S11, S12, S13, S14, S15, S16, S17, opv, opvs, eget, env0, setD, lenStr, lenSl, isNilP, isNilS, putAt, if_true, if_false, reduceCtorEq, Nat.reduceLeDiff, Nat.reduceEqDiff, Nat.reduceSub, Nat.reduceMul, Nat.reduceAdd])
      | (rw [q_rows_r _ _ hrow3]; simp -implicitDefEqProofs only [hh, cond_t, cond_f, S0, S1, S2, S3, S4, S5, S6, S7, S8, S9, S10, S11, S12, S13, S14, S15, S16, S17, opv, opvs, eget, env0, setD, lenStr, lenSl, isNilP, isNilS, putAt, if_true, if_false, reduceCtorEq, Nat.reduceLeDiff, Nat.reduceEqDiff, Nat.reduceSub, Nat.reduceMul, Nat.reduceAdd])
      | (rw [e1]; refine hof.apps (byteT_flat _) (by simp [byteT]) (b1 1 (by omega)).1 (b1 1 (by omega)).2 ?_; intro v' s' is' hle hof'; rw [yes [x] (enc1_yes (by (try simp only [Known] at hh); grind [selfB]))] at hof'; (try simp -implicitDefEqProofs only [hh, more, S0, S1, S2, S3, S4, S5, S6, S7, S8, S9, S10, S11, S12, S13, S14, S15, S16, S17, opv, opvs, eget, env0, setD, lenStr, lenSl, isNilP, isNilS, putAt, if_true, if_false, reduceCtorEq, Nat.reduceLeDiff, Nat.reduceEqDiff, Nat.reduceSub, Nat.reduceMul, Nat.reduceAdd]); exact lk_g ⟨k + 1, v', s', is'⟩ (by simp only; omega) ⟨by simp only; omega, hof'⟩ hof'.le rfl rfl)
      | (rw [e3]; refine hof.apps (byteT_flat _) (by simp [byteT]) (b1 3 (by omega)).1 (b1 3 (by omega)).2 ?_; intro v' s' is' hle hof'; rw [yes [92, hexD (x.toNat / 16), hexD (x.toNat % 16)] (enc1_no (by (try simp only [Known] at hh); grind [selfB]))] at hof'; (try simp -implicitDefEqProofs only [hh, more, S0, S1, S2, S3, S4, S5, S6, S7, S8, S9, S10, S11, S12, S13, S14, S15, S16, S17, opv, opvs, eget, env0, setD, lenStr, lenSl, isNilP, isNilS, putAt, if_true, if_false, reduceCtorEq, Nat.reduceLeDiff, Nat.reduceEqDiff, Nat.reduceSub, Nat.reduceMul, Nat.reduceAdd]); exact lk_g ⟨k + 1, v', s', is'⟩ (by simp only; omega) ⟨by simp only; omega, hof'⟩ hof'.le rfl rfl))
  · have hkk := end_of h1 hk
    subst hkk
    rw [List.take_length] at hof
    simp -implicitDefEqProofs only [c1, S0, S1, S2, S3, S4, S5, S6, S7, S8, S9, S10, S11, S12, S13, S14, S15, S16, S17, opv, opvs, eget, env0, setD, lenStr, lenSl, isNilP, isNilS, putAt, if_true, if_false, reduceCtorEq, Nat.reduceLeDiff, Nat.reduceEqDiff, Nat.reduceSub, Nat.reduceMul, Nat.reduceAdd]
    refine lit_rows ?_
    have hrow : (([[V.t (.int .u8 34)]] : List (List V)).all fun r => r.all one) = true := rfl
    simp -implicitDefEqProofs only [q_rows_r _ _ hrow, S0, S1, S2, S3, S4, S5, S6, S7, S8, S9, S10, S11, S12, S13, S14, S15, S16, S17, opv, opvs, eget, env0, setD, lenStr, lenSl, isNilP, isNilS, putAt, if_true, if_false, reduceCtorEq, Nat.reduceLeDiff, Nat.reduceEqDiff, Nat.reduceSub, Nat.reduceMul, Nat.reduceAdd]
    have e1 : ([[V.t (.int .u8 34)]] : List (List V)) = (byteT [34]).map fun r => r.map .t := rfl
    rw [e1]
    have hl2 : (w.flatMap enc1).length ≤ 3 * w.length := by rw [List.take_length] at hlen; exact hlen
    refine hof.apps (byteT_flat _) (by simp [byteT]) (by rw [byteT_len, List.length_cons]; simp only [maxBy, byteT_len, List.length_cons, List.length_nil]; omega) (by rw [byteT_len, List.length_cons, byteT_len, List.length_cons, List.length_nil]; omega) ?_
    intro v' s' is' hle hof'
    rw [← byteT_app] at hof'
    have hby := hof'.bytes
    obtain ⟨τ, rfl⟩ := OFl.same (B := []) (by rw [List.append_nil]; exact hof')
    simp -implicitDefEqProofs only [hby, q_bytesOf_rows, S0, S1, S2, S3, S4, S5, S6, S7, S8, S9, S10, S11, S12, S13, S14, S15, S16, S17, opv, opvs, eget, env0, setD, lenStr, lenSl, isNilP, isNilS, putAt, if_true, if_false, reduceCtorEq, Nat.reduceLeDiff, Nat.reduceEqDiff, Nat.reduceSub, Nat.reduceMul, Nat.reduceAdd]
    exact fin (congrArg (fun l => V.t (T.str l)) hen.symm) rfl

theorem spec_SheetWord (w : List UInt8) (hw : w.length ≤ 1048576) (σ : Store) : ACalls Try.prog 6 [.t (.str w)] σ fun rr σ' => rr = .t (.str (encW w)) ∧ σ' = σ := spec_SheetWord0 w hw σ
theorem impl_SheetWord (w : List UInt8) (hw : w.length ≤ 1048576) (σ : Store) : ACalls Try.prog 7 [.t (.str w)] σ fun rr σ' => rr = .t (.str (encW w)) ∧ σ' = σ := impl_SheetWord0 w hw σ
end Go.Proofs.Ytkppdeobinefbaa.W

end


section
open Go Go.Ab
set_option maxHeartbeats 2000000
namespace Go.Proofs.Ytkppdeobinefbaa.W
theorem byte_all {p : UInt8 → Bool} (h : ((List.range 256).all fun n => p (UInt8.ofNat n)) = true) (c : UInt8) : p c = true := by
  have := List.all_eq_true.1 h c.toNat (List.mem_range.2 c.toNat_lt)
  simpa using this
theorem hex_a (c : UInt8) (h : 48 ≤ c.toNat ∧ c.toNat ≤ 57) : IntKind.i64.wrap (IntKind.u8.wrap ((c.toNat : Int) - 48)) = hexV c := by
  have := byte_all (p := fun c => !(decide (48 ≤ c.toNat) && decide (c.toNat ≤ 57)) || decide (IntKind.i64.wrap (IntKind.u8.wrap ((c.toNat : Int) - 48)) = hexV c)) (by decide +kernel) c
  simpa [h] using this
theorem hex_b (c : UInt8) (h : 97 ≤ c.toNat ∧ c.toNat ≤ 102) : IntKind.i64.wrap (IntKind.i64.wrap (IntKind.u8.wrap ((c.toNat : Int) - 97)) + 10) = hexV c := by
  have := byte_all (p := fun c => !(decide (97 ≤ c.toNat) && decide (c.toNat ≤ 102)) || decide (IntKind.i64.wrap (IntKind.i64.wrap (IntKind.u8.wrap ((c.toNat : Int) - 97)) + 10) = hexV c)) (by decide +kernel) c
  simpa [h] using this
theorem hex_n (c : UInt8) (h : ¬ (48 ≤ c.toNat ∧ c.toNat ≤ 57)) (g : ¬ (97 ≤ c.toNat ∧ c.toNat ≤ 102)) : hexV c = -1 := by
  unfold hexV
  rw [if_neg h, if_neg g]
theorem hex_ix (c : UInt8) : Lib.indexByte hexS c = hexV c := by
  have := byte_all (p := fun c => decide (Lib.indexByte hexS c = hexV c)) (by decide +kernel) c
  simpa using this
theorem hexV_bnd (c : UInt8) : -1 ≤ hexV c ∧ hexV c ≤ 15 := by
  unfold hexV
  split
  · omega
  · split <;> omega
theorem u8_wrap (x : Int) : ((UInt8.ofNat (IntKind.u8.wrap x).toNat).toNat : Int) = IntKind.u8.wrap x := by
  have h : 0 ≤ IntKind.u8.wrap x ∧ IntKind.u8.wrap x < 256 := by
    simp only [IntKind.wrap, IntKind.signed, IntKind.bits]
    constructor
    · exact Int.emod_nonneg _ (by decide)
    · exact Int.emod_lt_of_pos _ (by decide)
  rw [UInt8.toNat_ofNat_of_lt' (by have : (IntKind.u8.wrap x).toNat < 256 := by omega
                                   exact this)]
  omega

def c_spec_l37Hex : C := (.seq (.ops [⟨(some 2), none, (.mv (.c (.t (.int .i64 0))))⟩]) (.seq (.seq (.ops [⟨(some 3), none, (.mv (.t 0))⟩, ⟨(some 4), none, (.bin .geq (.t 3) (.c (.t (.int .u8 48))))⟩, ⟨(some 5), none, (.mv (.t 4))⟩, ⟨(some 6), (some ⟨5, true⟩), (.mv (.t 0))⟩, ⟨(some 7), (some ⟨5, true⟩), (.bin .leq (.t 6) (.c (.t (.int .u8 57))))⟩, ⟨(some 8), none, (.pick (.t 5) (.t 7) (.c (.t (.bool false))))⟩]) (.cond (.t 8) (.seq (.ops [⟨(some 9), none, (.mv (.t 0))⟩, ⟨(some 10), none, (.bin .sub (.t 9) (.c (.t (.int .u8 48))))⟩, ⟨(some 11), none, (.convInt .i64 (.t 10))⟩, ⟨(some 2), none, (.mv (.t 11))⟩]) .ret) .skip)) (.seq (.seq (.ops [⟨(some 12), none, (.mv (.t 0))⟩, ⟨(some 13), none, (.bin .geq (.t 12) (.c (.t (.int .u8 97))))⟩, ⟨(some 14), none, (.mv (.t 13))⟩, ⟨(some 15), (some ⟨14, true⟩), (.mv (.t 0))⟩, ⟨(some 16), (some ⟨14, true⟩), (.bin .leq (.t 15) (.c (.t (.int .u8 102))))⟩, ⟨(some 17), none, (.pick (.t 14) (.t 16) (.c (.t (.bool false))))⟩]) (.cond (.t 17) (.seq (.ops [⟨(some 18), none, (.mv (.t 0))⟩, ⟨(some 19), none, (.bin .sub (.t 18) (.c (.t (.int .u8 97))))⟩, ⟨(some 20), none, (.convInt .i64 (.t 19))⟩, ⟨(some 21), none, (.bin .add (.t 20) (.c (.t (.int .i64 10))))⟩, ⟨(some 2), none, (.mv (.t 21))⟩]) .ret) .skip)) (.seq (.ops [⟨(some 2), none, (.mv (.c (.t (.int .i64 (-1)))))⟩]) .ret))))
theorem k_spec_l37Hex : comp Try.prog 22 (Try.f29.body.getD .skip) = some c_spec_l37Hex := by kernel_rfl

theorem spec_l37Hex (c : UInt8)  (σ : Store) : ACalls Try.prog 29 [.t (.int .u8 (c.toNat : Int))] σ fun rr σ' => rr = .t (.int .i64 (hexV c)) ∧ σ' = σ := by
  refine acalls_of Try.func29 (by decide +kernel) (code := Try.f29.body.getD .skip) (n := 22) (c := c_spec_l37Hex) (rs := [(.tmp 2)]) rfl rfl k_spec_l37Hex (by kernel_rfl) (by simp) (fun hσ => ?_)
  have hh : True := trivial
  have fin : ∀ {u : V} {τ : Store}, u = .t (.int .i64 (hexV c)) → u.lt σ.length = true → retV σ.length (fun rr σ' => rr = .t (.int .i64 (hexV c)) ∧ σ' = σ) (σ ++ τ) (some [u]) := fun h h2 => ret_same rfl hσ h2 ⟨h, rfl⟩
  have fin0 : ∀ {u : V}, u = .t (.int .i64 (hexV c)) → retV σ.length (fun rr σ' => rr = .t (.int .i64 (hexV c)) ∧ σ' = σ) σ (some [u]) := fun h => ret_same0 rfl ⟨h, rfl⟩
  simp -implicitDefEqProofs only [c_spec_l37Hex, S0, S1, S2, S3, S4, S5, S6, S7, S8, S9, S10, S11, S12, S13, S14, S15, S16, S17, opv, opvs, eget, env0, setD, lenStr, lenSl, isNilP, isNilS, putAt, if_true, if_false, reduceCtorEq, Nat.reduceLeDiff, Nat.reduceEqDiff, Nat.reduceSub, Nat.reduceMul, Nat.reduceAdd]
  repeat' (first
    | ((with_reducible refine cond_known (fun h => ?_) (fun h => ?_)) <;> (replace hh := And.intro h hh; clear h; simp -implicitDefEqProofs only [hh, cond_t, cond_f, S0, S1, S2, S3, S4, S5, S6, S7, S8, S9, S10, S11, S12, S13, S14, S15, S16, S17, opv, opvs, eget, env0, setD, lenStr, lenSl, isNilP, isNilS, putAt, if_true, if_false, reduceCtorEq, Nat.reduceLeDiff, Nat.reduceEqDiff, Nat.reduceSub, Nat.reduceMul, Nat.reduceAdd]))
    | (first | ((with_reducible refine fin0 ?_); refine ti ?_; (try simp only [Known] at hh); first | (rw [hex_a c (by simp only [decide_eq_true_eq] at hh; omega)]) | (rw [hex_b c (by simp only [decide_eq_true_eq] at hh; omega)]) | (rw [hex_n c (by simp only [decide_eq_true_eq, decide_eq_false_iff_not] at hh; omega) (by simp only [decide_eq_true_eq, decide_eq_false_iff_not] at hh; omega)])) | ((with_reducible refine fin ?_ ?_); rotate_left; exact rfl; refine ti ?_; (try simp only [Known] at hh); first | (rw [hex_a c (by simp only [decide_eq_true_eq] at hh; omega)]) | (rw [hex_b c (by simp only [decide_eq_true_eq] at hh; omega)]) | (rw [hex_n c (by simp only [decide_eq_true_eq, decide_eq_false_iff_not] at hh; omega) (by simp only [decide_eq_true_eq, decide_eq_false_iff_not] at hh; omega)]))))

theorem x_ib (s : List UInt8) (c : UInt8) : XCalls Try.prog 35 [.t (.str s), .t (.int .u8 (c.toNat : Int))] (.t (.int .i64 (Lib.indexByte s c))) :=
  x_indexByte Try.func35 (by kernel_rfl) (by kernel_rfl) (by kernel_rfl) (by kernel_rfl) s c
def c_internal_stringslite_IndexByte : C := (.seq (.ops [⟨(some 4), none, (.mv (.c (.t (.int .i64 0))))⟩]) (.seq (.ops [⟨(some 5), none, (.mv (.t 0))⟩, ⟨(some 6), none, (.mv (.t 1))⟩, ⟨(some 7), none, (.call (.c (.fn (.func 35) [])) [(.t 5), (.t 6)])⟩, ⟨(some 4), none, (.mv (.t 7))⟩]) .ret))
theorem k_internal_stringslite_IndexByte : comp Try.prog 8 (Try.f34.body.getD .skip) = some c_internal_stringslite_IndexByte := by kernel_rfl

theorem internal_stringslite_IndexByte (s : List UInt8) (c : UInt8)  (σ : Store) : ACalls Try.prog 34 [.t (.str (s)), .t (.int .u8 (c.toNat : Int))] σ fun rr σ' => rr = .t (.int .i64 (Lib.indexByte s c)) ∧ σ' = σ := by
  refine acalls_of Try.func34 (by decide +kernel) (code := Try.f34.body.getD .skip) (n := 8) (c := c_internal_stringslite_IndexByte) (rs := [(.tmp 4)]) rfl rfl k_internal_stringslite_IndexByte (by kernel_rfl) (by simp) (fun hσ => ?_)
  have hh : True := trivial
  have fin : ∀ {u : V} {τ : Store}, u = .t (.int .i64 (Lib.indexByte s c)) → u.lt σ.length = true → retV σ.length (fun rr σ' => rr = .t (.int .i64 (Lib.indexByte s c)) ∧ σ' = σ) (σ ++ τ) (some [u]) := fun h h2 => ret_same rfl hσ h2 ⟨h, rfl⟩
  have fin0 : ∀ {u : V}, u = .t (.int .i64 (Lib.indexByte s c)) → retV σ.length (fun rr σ' => rr = .t (.int .i64 (Lib.indexByte s c)) ∧ σ' = σ) σ (some [u]) := fun h => ret_same0 rfl ⟨h, rfl⟩
  simp -implicitDefEqProofs only [c_internal_stringslite_IndexByte, S0, S1, S2, S3, S4, S5, S6, S7, S8, S9, S10, S11, S12, S13, S14, S15, S16, S17, opv, opvs, eget, env0, setD, lenStr, lenSl, isNilP, isNilS, putAt, if_true, if_false, reduceCtorEq, Nat.reduceLeDiff, Nat.reduceEqDiff, Nat.reduceSub, Nat.reduceMul, Nat.reduceAdd]
  refine call_ext (x_ib s c) ?_
  simp -implicitDefEqProofs only [S0, S1, S2, S3, S4, S5, S6, S7, S8, S9, S10, S11, S12, S13, S14, S15, S16, S17, opv, opvs, eget, env0, setD, lenStr, lenSl, isNilP, isNilS, putAt, if_true, if_false, reduceCtorEq, Nat.reduceLeDiff, Nat.reduceEqDiff, Nat.reduceSub, Nat.reduceMul, Nat.reduceAdd]
  first | exact fin0 rfl | exact fin rfl rfl

def c_strings_IndexByte : C := (.seq (.ops [⟨(some 4), none, (.mv (.c (.t (.int .i64 0))))⟩]) (.seq (.ops [⟨(some 5), none, (.mv (.t 0))⟩, ⟨(some 6), none, (.mv (.t 1))⟩, ⟨(some 7), none, (.call (.c (.fn (.func 34) [])) [(.t 5), (.t 6)])⟩, ⟨(some 4), none, (.mv (.t 7))⟩]) .ret))
theorem k_strings_IndexByte : comp Try.prog 8 (Try.f33.body.getD .skip) = some c_strings_IndexByte := by kernel_rfl

theorem strings_IndexByte (s : List UInt8) (c : UInt8)  (σ : Store) : ACalls Try.prog 33 [.t (.str (s)), .t (.int .u8 (c.toNat : Int))] σ fun rr σ' => rr = .t (.int .i64 (Lib.indexByte s c)) ∧ σ' = σ := by
  refine acalls_of Try.func33 (by decide +kernel) (code := Try.f33.body.getD .skip) (n := 8) (c := c_strings_IndexByte) (rs := [(.tmp 4)]) rfl rfl k_strings_IndexByte (by kernel_rfl) (by simp) (fun hσ => ?_)
  have hh : True := trivial
  have fin : ∀ {u : V} {τ : Store}, u = .t (.int .i64 (Lib.indexByte s c)) → u.lt σ.length = true → retV σ.length (fun rr σ' => rr = .t (.int .i64 (Lib.indexByte s c)) ∧ σ' = σ) (σ ++ τ) (some [u]) := fun h h2 => ret_same rfl hσ h2 ⟨h, rfl⟩
  have fin0 : ∀ {u : V}, u = .t (.int .i64 (Lib.indexByte s c)) → retV σ.length (fun rr σ' => rr = .t (.int .i64 (Lib.indexByte s c)) ∧ σ' = σ) σ (some [u]) := fun h => ret_same0 rfl ⟨h, rfl⟩
  simp -implicitDefEqProofs only [c_strings_IndexByte, S0, S1, S2, S3, S4, S5, S6, S7, S8, S9, S10, S11, S12, S13, S14, S15, S16, S17, opv, opvs, eget, env0, setD, lenStr, lenSl, isNilP, isNilS, putAt, if_true, if_false, reduceCtorEq, Nat.reduceLeDiff, Nat.reduceEqDiff, Nat.reduceSub, Nat.reduceMul, Nat.reduceAdd]
  refine call_pure (internal_stringslite_IndexByte s c _) ?_
  simp -implicitDefEqProofs only [S0, S1, S2, S3, S4, S5, S6, S7, S8, S9, S10, S11, S12, S13, S14, S15, S16, S17, opv, opvs, eget, env0, setD, lenStr, lenSl, isNilP, isNilS, putAt, if_true, if_false, reduceCtorEq, Nat.reduceLeDiff, Nat.reduceEqDiff, Nat.reduceSub, Nat.reduceMul, Nat.reduceAdd]
  first | exact fin0 rfl | exact fin rfl rfl

def c_impl_hexOf : C := (.seq (.ops [⟨(some 2), none, (.mv (.c (.t (.int .i64 0))))⟩]) (.seq (.ops [⟨(some 3), none, (.mv (.t 0))⟩, ⟨(some 4), none, (.call (.c (.fn (.func 33) [])) [(.c (.t (.str [48, 49, 50, 51, 52, 53, 54, 55, 56, 57, 97, 98, 99, 100, 101, 102]))), (.t 3)])⟩, ⟨(some 2), none, (.mv (.t 4))⟩]) .ret))
theorem k_impl_hexOf : comp Try.prog 5 (Try.f32.body.getD .skip) = some c_impl_hexOf := by kernel_rfl

theorem impl_hexOf (c : UInt8)  (σ : Store) : ACalls Try.prog 32 [.t (.int .u8 (c.toNat : Int))] σ fun rr σ' => rr = .t (.int .i64 (hexV c)) ∧ σ' = σ := by
  refine acalls_of Try.func32 (by decide +kernel) (code := Try.f32.body.getD .skip) (n := 5) (c := c_impl_hexOf) (rs := [(.tmp 2)]) rfl rfl k_impl_hexOf (by kernel_rfl) (by simp) (fun hσ => ?_)
  have hh : True := trivial
  have fin : ∀ {u : V} {τ : Store}, u = .t (.int .i64 (hexV c)) → u.lt σ.length = true → retV σ.length (fun rr σ' => rr = .t (.int .i64 (hexV c)) ∧ σ' = σ) (σ ++ τ) (some [u]) := fun h h2 => ret_same rfl hσ h2 ⟨h, rfl⟩
  have fin0 : ∀ {u : V}, u = .t (.int .i64 (hexV c)) → retV σ.length (fun rr σ' => rr = .t (.int .i64 (hexV c)) ∧ σ' = σ) σ (some [u]) := fun h => ret_same0 rfl ⟨h, rfl⟩
  simp -implicitDefEqProofs only [c_impl_hexOf, S0, S1, S2, S3, S4, S5, S6, S7, S8, S9, S10, S11, S12, S13, S14, S15, S16, S17, opv, opvs, eget, env0, setD, lenStr, lenSl, isNilP, isNilS, putAt, if_true, if_false, reduceCtorEq, Nat.reduceLeDiff, Nat.reduceEqDiff, Nat.reduceSub, Nat.reduceMul, Nat.reduceAdd]
  refine call_pure (strings_IndexByte _ c _) ?_
  simp -implicitDefEqProofs only [S0, S1, S2, S3, S4, S5, S6, S7, S8, S9, S10, S11, S12, S13, S14, S15, S16, S17, opv, opvs, eget, env0, setD, lenStr, lenSl, isNilP, isNilS, putAt, if_true, if_false, reduceCtorEq, Nat.reduceLeDiff, Nat.reduceEqDiff, Nat.reduceSub, Nat.reduceMul, Nat.reduceAdd]
  have := hex_ix c
  unfold hexS at this
  rw [this]
  first | exact fin0 rfl | exact fin rfl rfl

def qR (d : Int) : Option (List UInt8 × Nat) → V
  | none => .tup [.t (.str []), .t (.int .i64 0)]
  | some (t, k) => .tup [.t (.str t), .t (.int .i64 ((k : Nat) + d))]
structure Gq where
  i : Nat
  acc : List UInt8
  v : V
  s : Store
  is : List Nat
theorem drop3 {s : List UInt8} {i : Nat} (h : i + 2 < s.length) : ∃ c a b, s[i]? = some c ∧ s[i + 1]? = some a ∧ s[i + 2]? = some b ∧ s.drop i = c :: a :: b :: s.drop (i + 3) := by
  refine ⟨s[i], s[i + 1], s[i + 2], by simp, by simp, by simp, ?_⟩
  rw [← List.getElem_cons_drop (show i < s.length by omega), ← List.getElem_cons_drop (show i + 1 < s.length by omega), ← List.getElem_cons_drop (show i + 2 < s.length by omega)]
theorem qF_bad {c : UInt8} {r acc : List UInt8} {n : Nat} (h1 : ((c.toNat : Int) == 34) = false) (h2 : ((c.toNat : Int) == 92) = true) (h : r.length ≤ 1) : qF (c :: r) acc n = none := by
  rw [qF.eq_def]
  simp only [h1, h2, Bool.false_eq_true, if_false, if_true]
  match r, h with
  | [], _ => rfl
  | [a], _ => rfl
theorem qF_hex {c a b : UInt8} {r acc : List UInt8} {n : Nat} (h1 : ((c.toNat : Int) == 34) = false) (h2 : ((c.toNat : Int) == 92) = true) : qF (c :: a :: b :: r) acc n = if (decide (hexV a < 0) || decide (hexV b < 0)) = true then none else qF r (acc ++ [hexP a b]) (n + 3) := by
  rw [qF.eq_def]
  simp only [h1, h2, Bool.false_eq_true, if_false, if_true]
theorem qF_end {c : UInt8} {r acc : List UInt8} {n : Nat} (h1 : ((c.toNat : Int) == 34) = true) : qF (c :: r) acc n = some (acc, n + 1) := by
  rw [qF.eq_def]
  simp only [h1, if_true]
theorem qF_one {c : UInt8} {r acc : List UInt8} {n : Nat} (h1 : ((c.toNat : Int) == 34) = false) (h2 : ((c.toNat : Int) == 92) = false) : qF (c :: r) acc n = if prtB c = true then qF r (acc ++ [c]) (n + 1) else none := by
  rw [qF.eq_def]
  simp only [h1, h2, Bool.false_eq_true, if_false]
theorem qF_nil {acc : List UInt8} {n : Nat} : qF [] acc n = none := by rw [qF.eq_def]

def c_spec_l37Quoted : C := (.seq (.ops [⟨(some 2), none, (.mv (.c (.t (.str []))))⟩, ⟨(some 3), none, (.mv (.c (.t (.int .i64 0))))⟩]) (.seq (.ops [⟨(some 6), none, (.lit none 1 0 [(.t (.int .u8 0))] [])⟩, ⟨(some 4), none, (.mv (.t 6))⟩]) (.seq (.seq (.ops [⟨(some 5), none, (.mv (.c (.t (.int .i64 0))))⟩]) (.block 0 (.loop (.seq (.seq (.ops [⟨(some 7), none, (.mv (.t 5))⟩, ⟨(some 8), none, (.mv (.t 0))⟩, ⟨(some 9), none, (.len true (.t 8))⟩, ⟨(some 10), none, (.bin .lss (.t 7) (.t 9))⟩]) (.cond (.t 10) .skip (.exit 0))) (.seq (.block 1 (.block 2 (.seq (.ops [⟨(some 14), none, (.mv (.t 0))⟩, ⟨(some 15), none, (.mv (.t 5))⟩, ⟨(some 16), none, (.index (.t 14) (.t 15))⟩, ⟨(some 17), none, (.bin .eql (.t 16) (.c (.t (.int .u8 34))))⟩, ⟨(some 13), none, (.mv (.t 17))⟩]) (.cond (.t 13) (.seq (.ops [⟨(some 18), none, (.mv (.t 4))⟩, ⟨(some 19), none, (.bytesStr (.t 18))⟩, ⟨(some 20), none, (.mv (.t 5))⟩, ⟨(some 21), none, (.bin .add (.t 20) (.c (.t (.int .i64 1))))⟩, ⟨(some 2), none, (.mv (.t 19))⟩, ⟨(some 3), none, (.mv (.t 21))⟩]) .ret) (.seq (.ops [⟨(some 23), none, (.mv (.t 0))⟩, ⟨(some 24), none, (.mv (.t 5))⟩, ⟨(some 25), none, (.index (.t 23) (.t 24))⟩, ⟨(some 26), none, (.bin .eql (.t 25) (.c (.t (.int .u8 92))))⟩, ⟨(some 22), none, (.mv (.t 26))⟩]) (.cond (.t 22) (.seq (.seq (.ops [⟨(some 27), none, (.mv (.t 5))⟩, ⟨(some 28), none, (.bin .add (.t 27) (.c (.t (.int .i64 2))))⟩, ⟨(some 29), none, (.mv (.t 0))⟩, ⟨(some 30), none, (.len true (.t 29))⟩, ⟨(some 31), none, (.bin .geq (.t 28) (.t 30))⟩, ⟨(some 32), none, (.mv (.t 31))⟩, ⟨(some 33), (some ⟨32, false⟩), (.mv (.t 0))⟩, ⟨(some 34), (some ⟨32, false⟩), (.mv (.t 5))⟩, ⟨(some 35), (some ⟨32, false⟩), (.bin .add (.t 34) (.c (.t (.int .i64 1))))⟩, ⟨(some 36), (some ⟨32, false⟩), (.index (.t 33) (.t 35))⟩, ⟨(some 37), (some ⟨32, false⟩), (.call (.c (.fn (.func 29) [])) [(.t 36)])⟩, ⟨(some 38), (some ⟨32, false⟩), (.bin .lss (.t 37) (.c (.t (.int .i64 0))))⟩, ⟨(some 39), none, (.pick (.t 32) (.c (.t (.bool true))) (.t 38))⟩, ⟨(some 40), none, (.mv (.t 39))⟩, ⟨(some 41), (some ⟨40, false⟩), (.mv (.t 0))⟩, ⟨(some 42), (some ⟨40, false⟩), (.mv (.t 5))⟩, ⟨(some 43), (some ⟨40, false⟩), (.bin .add (.t 42) (.c (.t (.int .i64 2))))⟩, ⟨(some 44), (some ⟨40, false⟩), (.index (.t 41) (.t 43))⟩, ⟨(some 45), (some ⟨40, false⟩), (.call (.c (.fn (.func 29) [])) [(.t 44)])⟩, ⟨(some 46), (some ⟨40, false⟩), (.bin .lss (.t 45) (.c (.t (.int .i64 0))))⟩, ⟨(some 47), none, (.pick (.t 40) (.c (.t (.bool true))) (.t 46))⟩]) (.cond (.t 47) (.seq (.ops [⟨(some 2), none, (.mv (.c (.t (.str []))))⟩, ⟨(some 3), none, (.mv (.c (.t (.int .i64 0))))⟩]) .ret) .skip)) (.seq (.drawn [(.mk 0 false ⟨(some 48), none, (.mv (.t 4))⟩), (.mk 1 false ⟨(some 49), none, (.mv (.t 0))⟩), (.mk 2 false ⟨(some 50), none, (.mv (.t 5))⟩), (.mk 3 false ⟨(some 51), none, (.bin .add (.t 50) (.c (.t (.int .i64 1))))⟩), (.mk 4 false ⟨(some 52), none, (.index (.t 49) (.t 51))⟩), (.mk 7 false ⟨(some 55), none, (.mv (.t 0))⟩), (.mk 8 false ⟨(some 56), none, (.mv (.t 5))⟩), (.mk 9 false ⟨(some 57), none, (.bin .add (.t 56) (.c (.t (.int .i64 2))))⟩), (.mk 10 false ⟨(some 58), none, (.index (.t 55) (.t 57))⟩), (.mk 5 false ⟨(some 53), none, (.call (.c (.fn (.func 29) [])) [(.t 52)])⟩), (.mk 6 false ⟨(some 54), none, (.bin .mul (.c (.t (.int .i64 16))) (.t 53))⟩), (.mk 11 false ⟨(some 59), none, (.call (.c (.fn (.func 29) [])) [(.t 58)])⟩), (.mk 12 false ⟨(some 60), none, (.bin .add (.t 54) (.t 59))⟩), (.mk 13 false ⟨(some 61), none, (.convInt .u8 (.t 60))⟩), (.mk 14 false ⟨(some 62), none, (.lit (some false) 1 1 [(.t (.int .u8 0))] [⟨0, (.t 61)⟩])⟩), (.mk 15 false ⟨(some 63), none, (.append 1 1 (.t 48) (.t 62))⟩), (.mk 16 true ⟨(some 4), none, (.mv (.t 63))⟩)]) (.ops [⟨(some 64), none, (.mv (.t 5))⟩, ⟨(some 65), none, (.bin .add (.t 64) (.c (.t (.int .i64 2))))⟩, ⟨(some 5), none, (.mv (.t 65))⟩]))) (.seq (.ops [⟨(some 67), none, (.mv (.t 0))⟩, ⟨(some 68), none, (.mv (.t 5))⟩, ⟨(some 69), none, (.index (.t 67) (.t 68))⟩, ⟨(some 70), none, (.bin .geq (.t 69) (.c (.t (.int .u8 32))))⟩, ⟨(some 71), none, (.mv (.t 70))⟩, ⟨(some 72), (some ⟨71, true⟩), (.mv (.t 0))⟩, ⟨(some 73), (some ⟨71, true⟩), (.mv (.t 5))⟩, ⟨(some 74), (some ⟨71, true⟩), (.index (.t 72) (.t 73))⟩, ⟨(some 75), (some ⟨71, true⟩), (.bin .leq (.t 74) (.c (.t (.int .u8 126))))⟩, ⟨(some 76), none, (.pick (.t 71) (.t 75) (.c (.t (.bool false))))⟩, ⟨(some 66), none, (.mv (.t 76))⟩]) (.cond (.t 66) (.ops [⟨(some 77), none, (.mv (.t 4))⟩, ⟨(some 78), none, (.mv (.t 0))⟩, ⟨(some 79), none, (.mv (.t 5))⟩, ⟨(some 80), none, (.index (.t 78) (.t 79))⟩, ⟨(some 81), none, (.lit none 1 1 [(.t (.int .u8 0))] [⟨0, (.t 80)⟩])⟩, ⟨(some 82), none, (.append 1 1 (.t 77) (.t 81))⟩, ⟨(some 4), none, (.mv (.t 82))⟩]) (.seq (.ops [⟨(some 2), none, (.mv (.c (.t (.str []))))⟩, ⟨(some 3), none, (.mv (.c (.t (.int .i64 0))))⟩]) .ret))))))))) (.ops [⟨(some 11), none, (.mv (.t 5))⟩, ⟨(some 12), none, (.bin .add (.t 11) (.c (.t (.int .i64 1))))⟩, ⟨(some 5), none, (.mv (.t 12))⟩])))))) (.seq (.ops [⟨(some 2), none, (.mv (.c (.t (.str []))))⟩, ⟨(some 3), none, (.mv (.c (.t (.int .i64 0))))⟩]) .ret))))
theorem k_spec_l37Quoted : comp Try.prog 83 (Try.f19.body.getD .skip) = some c_spec_l37Quoted := by kernel_rfl

theorem spec_l37Quoted (s : List UInt8) (hs : s.length ≤ 1048576) (σ : Store) : ACalls Try.prog 19 [.t (.str s)] σ fun rr σ' => rr = qR 0 (qF s [] 0) ∧ σ' = σ := by
  refine acalls_of Try.func19 (by decide +kernel) (code := Try.f19.body.getD .skip) (n := 83) (c := c_spec_l37Quoted) (rs := [(.tmp 2), (.tmp 3)]) rfl rfl k_spec_l37Quoted (by kernel_rfl) (by simp) (fun hσ => ?_)
  have c1 : 0 < 1 := by omega
  simp -implicitDefEqProofs only [c_spec_l37Quoted, S0, S1, S2, S3, S4, S5, S6, S7, S8, S9, S10, S11, S12, S13, S14, S15, S16, S17, opv, opvs, eget, env0, setD, lenStr, lenSl, isNilP, isNilS, putAt, if_true, if_false, reduceCtorEq, Nat.reduceLeDiff, Nat.reduceEqDiff, Nat.reduceSub, Nat.reduceMul, Nat.reduceAdd]
  refine lit_rows ?_
  simp -implicitDefEqProofs only [S0, S1, S2, S3, S4, S5, S6, S7, S8, S9, S10, S11, S12, S13, S14, S15, S16, S17, opv, opvs, eget, env0, setD, lenStr, lenSl, isNilP, isNilS, putAt, if_true, if_false, reduceCtorEq, Nat.reduceLeDiff, Nat.reduceEqDiff, Nat.reduceSub, Nat.reduceMul, Nat.reduceAdd]
  refine loop_g [4, 5, 0] [0] (fun g : Gq => [(4, g.v), (5, .t (.int .i64 (g.i : Nat)))]) (fun g => g.s) (fun g => g.i ≤ s.length ∧ qF (s.drop g.i) g.acc g.i = qF s [] 0 ∧ OFl σ 1 (byteT g.acc) g.v g.s g.is ∧ g.acc.length ≤ g.i) (fun g => s.length - g.i) ⟨0, [], .rows 1 [], σ, []⟩ (Nat.le_refl _) ⟨Nat.zero_le _, rfl, OFl.rows (by omega), Nat.le_refl _⟩ rfl rfl ?_
  rintro ⟨i, acc, v, st, is⟩ ⟨hk, hq, hof, hac⟩
  simp only at hk hq hof hac
  have hbl : σ.length ≤ st.length := hof.le
  have hby := hof.bytes
  obtain ⟨τ0, hτ⟩ := OFl.same (B := []) (by rw [List.append_nil]; exact hof)
  have fin : ∀ {u : V} {τ : Store}, u = qR 0 (qF s [] 0) → u.lt σ.length = true → retV σ.length (fun rr σ' => rr = qR 0 (qF s [] 0) ∧ σ' = σ) (σ ++ τ) (some (match u with | .tup us => us | u => [u])) → True := fun _ _ _ => trivial
  simp -implicitDefEqProofs only [keep, S0, S1, S2, S3, S4, S5, S6, S7, S8, S9, S10, S11, S12, S13, S14, S15, S16, S17, opv, opvs, eget, env0, setD, lenStr, lenSl, isNilP, isNilS, putAt, if_true, if_false, reduceCtorEq, Nat.reduceLeDiff, Nat.reduceEqDiff, Nat.reduceSub, Nat.reduceMul, Nat.reduceAdd]
  refine cond_split (fun h1 => ?_) (fun h1 => ?_)
  · have hlt : i < s.length := by simpa using h1
    obtain ⟨x, hx0⟩ : ∃ x, s[i]? = some x := ⟨s[i], by simp [hlt]⟩
    have hx := hx0
    have more := i64_succ (show i < 4611686018427387904 by omega)
    have more1 := i64_succ (show i + 1 < 4611686018427387904 by omega)
    have more2 := i64_succ (show i + 2 < 4611686018427387904 by omega)
    have two : IntKind.i64.wrap (((i : Nat) : Int) + 2) = ((i + 2 : Nat) : Int) := IntWalk.i64_in _ (by omega)
    have hd := drop_of hx0
    clear h1
    simp -implicitDefEqProofs only [hx, nat_nn, Nat.zero_le, c1, hby, q_bytesOf_rows, more, S0, S1, S2, S3, S4, S5, S6, S7, S8, S9, S10, S11, S12, S13, S14, S15, S16, S17, opv, opvs, eget, env0, setD, lenStr, lenSl, isNilP, isNilS, putAt, if_true, if_false, reduceCtorEq, Nat.reduceLeDiff, Nat.reduceEqDiff, Nat.reduceSub, Nat.reduceMul, Nat.reduceAdd]
    refine cond_split (fun g1 => ?_) (fun g1 => ?_)
    · rw [hd, qF_end g1] at hq
      simp -implicitDefEqProofs only [hx, nat_nn, Nat.zero_le, c1, hby, q_bytesOf_rows, more, S0, S1, S2, S3, S4, S5, S6, S7, S8, S9, S10, S11, S12, S13, S14, S15, S16, S17, opv, opvs, eget, env0, setD, lenStr, lenSl, isNilP, isNilS, putAt, if_true, if_false, reduceCtorEq, Nat.reduceLeDiff, Nat.reduceEqDiff, Nat.reduceSub, Nat.reduceMul, Nat.reduceAdd]
      rw [hτ]
      exact ret_same (us := [.t (.str acc), .t (.int .i64 ((i + 1 : Nat) : Int))]) rfl hσ rfl ⟨by rw [← hq]; simp only [mkRes, qR]; first | rfl | simp, rfl⟩
    simp -implicitDefEqProofs only [hx, nat_nn, Nat.zero_le, c1, hby, q_bytesOf_rows, more, S0, S1, S2, S3, S4, S5, S6, S7, S8, S9, S10, S11, S12, S13, S14, S15, S16, S17, opv, opvs, eget, env0, setD, lenStr, lenSl, isNilP, isNilS, putAt, if_true, if_false, reduceCtorEq, Nat.reduceLeDiff, Nat.reduceEqDiff, Nat.reduceSub, Nat.reduceMul, Nat.reduceAdd]
    refine cond_split (fun g2 => ?_) (fun g2 => ?_)
    · simp -implicitDefEqProofs only [hx, nat_nn, Nat.zero_le, c1, hby, q_bytesOf_rows, more, two, S0, S1, S2, S3, S4, S5, S6, S7, S8, S9, S10, S11, S12, S13, S14, S15, S16, S17, opv, opvs, eget, env0, setD, lenStr, lenSl, isNilP, isNilS, putAt, if_true, if_false, reduceCtorEq, Nat.reduceLeDiff, Nat.reduceEqDiff, Nat.reduceSub, Nat.reduceMul, Nat.reduceAdd]
      rcases Nat.lt_or_ge (i + 2) s.length with h3 | h3
      rotate_left
      · have d3 : decide (((i + 2 : Nat) : Int) ≥ ((s.length : Nat) : Int)) = true := by simp; omega
        rw [hd, qF_bad g1 g2 (by rw [List.length_drop]; omega)] at hq
        simp -implicitDefEqProofs only [d3, cond_t, cond_f, S0, S1, S2, S3, S4, S5, S6, S7, S8, S9, S10, S11, S12, S13, S14, S15, S16, S17, opv, opvs, eget, env0, setD, lenStr, lenSl, isNilP, isNilS, putAt, if_true, if_false, reduceCtorEq, Nat.reduceLeDiff, Nat.reduceEqDiff, Nat.reduceSub, Nat.reduceMul, Nat.reduceAdd]
        rw [hτ]
        exact ret_same (us := [.t (.str []), .t (.int .i64 0)]) rfl hσ rfl ⟨by rw [← hq]; rfl, rfl⟩
      obtain ⟨c, a, b, e1, e2, e3, e4⟩ := drop3 h3
      rw [hx0] at e1
      obtain rfl := Option.some.inj e1
      have d3 : decide (((i + 2 : Nat) : Int) ≥ ((s.length : Nat) : Int)) = false := by simp; omega
      skip
      skip
      rw [e4, qF_hex g1 g2] at hq
      have hva := hexV_bnd a
      have hvb := hexV_bnd b
      simp -implicitDefEqProofs only [d3, cond_t, cond_f, nat_nn, Nat.zero_le, e2, e3, more, two, S0, S1, S2, S3, S4, S5, S6, S7, S8, S9, S10, S11, S12, S13, S14, S15, S16, S17, opv, opvs, eget, env0, setD, lenStr, lenSl, isNilP, isNilS, putAt, if_true, if_false, reduceCtorEq, Nat.reduceLeDiff, Nat.reduceEqDiff, Nat.reduceSub, Nat.reduceMul, Nat.reduceAdd]
      refine call_pure (spec_l37Hex a _) ?_
      simp -implicitDefEqProofs only [d3, cond_t, cond_f, nat_nn, Nat.zero_le, e2, e3, more, two, S0, S1, S2, S3, S4, S5, S6, S7, S8, S9, S10, S11, S12, S13, S14, S15, S16, S17, opv, opvs, eget, env0, setD, lenStr, lenSl, isNilP, isNilS, putAt, if_true, if_false, reduceCtorEq, Nat.reduceLeDiff, Nat.reduceEqDiff, Nat.reduceSub, Nat.reduceMul, Nat.reduceAdd]
      rcases ha : decide (hexV a < 0) with _ | _
      rotate_left
      · simp -implicitDefEqProofs only [ha, cond_t, cond_f, S0, S1, S2, S3, S4, S5, S6, S7, S8, S9, S10, S11, S12, S13, S14, S15, S16, S17, opv, opvs, eget, env0, setD, lenStr, lenSl, isNilP, isNilS, putAt, if_true, if_false, reduceCtorEq, Nat.reduceLeDiff, Nat.reduceEqDiff, Nat.reduceSub, Nat.reduceMul, Nat.reduceAdd]
        rw [ha] at hq
        rw [hτ]
        exact ret_same (us := [.t (.str []), .t (.int .i64 0)]) rfl hσ rfl ⟨by rw [← hq]; rfl, rfl⟩
      simp -implicitDefEqProofs only [ha, cond_t, cond_f, nat_nn, Nat.zero_le, e2, e3, more, two, S0, S1, S2, S3, S4, S5, S6, S7, S8, S9, S10, S11, S12, S13, S14, S15, S16, S17, opv, opvs, eget, env0, setD, lenStr, lenSl, isNilP, isNilS, putAt, if_true, if_false, reduceCtorEq, Nat.reduceLeDiff, Nat.reduceEqDiff, Nat.reduceSub, Nat.reduceMul, Nat.reduceAdd]
      refine call_pure (spec_l37Hex b _) ?_
      simp -implicitDefEqProofs only [ha, cond_t, cond_f, nat_nn, Nat.zero_le, e2, e3, more, two, S0, S1, S2, S3, S4, S5, S6, S7, S8, S9, S10, S11, S12, S13, S14, S15, S16, S17, opv, opvs, eget, env0, setD, lenStr, lenSl, isNilP, isNilS, putAt, if_true, if_false, reduceCtorEq, Nat.reduceLeDiff, Nat.reduceEqDiff, Nat.reduceSub, Nat.reduceMul, Nat.reduceAdd]
      rcases hb : decide (hexV b < 0) with _ | _
      rotate_left
      · simp -implicitDefEqProofs only [ha, hb, cond_t, cond_f, S0, S1, S2, S3, S4, S5, S6, S7, S8, S9, S10, S11, S12, S13, S14, S15, S16, S17, opv, opvs, eget, env0, setD, lenStr, lenSl, isNilP, isNilS, putAt, if_true, if_false, reduceCtorEq, Nat.reduceLeDiff, Nat.reduceEqDiff, Nat.reduceSub, Nat.reduceMul, Nat.reduceAdd]
        rw [ha, hb] at hq
        rw [hτ]
        exact ret_same (us := [.t (.str []), .t (.int .i64 0)]) rfl hσ rfl ⟨by rw [← hq]; rfl, rfl⟩
      rw [ha, hb] at hq
      simp -implicitDefEqProofs only [ha, hb, cond_t, cond_f, nat_nn, Nat.zero_le, e2, e3, more, two, c1, S0, S1, S2, S3, S4, S5, S6, S7, S8, S9, S10, S11, S12, S13, S14, S15, S16, S17, opv, opvs, eget, env0, setD, lenStr, lenSl, isNilP, isNilS, putAt, if_true, if_false, reduceCtorEq, Nat.reduceLeDiff, Nat.reduceEqDiff, Nat.reduceSub, Nat.reduceMul, Nat.reduceAdd]
      refine call_pure (spec_l37Hex a _) ?_
      simp -implicitDefEqProofs only [ha, hb, cond_t, cond_f, nat_nn, Nat.zero_le, e2, e3, more, two, c1, S0, S1, S2, S3, S4, S5, S6, S7, S8, S9, S10, S11, S12, S13, S14, S15, S16, S17, opv, opvs, eget, env0, setD, lenStr, lenSl, isNilP, isNilS, putAt, if_true, if_false, reduceCtorEq, Nat.reduceLeDiff, Nat.reduceEqDiff, Nat.reduceSub, Nat.reduceMul, Nat.reduceAdd]
      refine call_pure (spec_l37Hex b _) ?_
      simp -implicitDefEqProofs only [ha, hb, cond_t, cond_f, nat_nn, Nat.zero_le, e2, e3, more, two, c1, S0, S1, S2, S3, S4, S5, S6, S7, S8, S9, S10, S11, S12, S13, S14, S15, S16, S17, opv, opvs, eget, env0, setD, lenStr, lenSl, isNilP, isNilS, putAt, if_true, if_false, reduceCtorEq, Nat.reduceLeDiff, Nat.reduceEqDiff, Nat.reduceSub, Nat.reduceMul, Nat.reduceAdd]
      have hrow : ([[V.t (.int .u8 (IntKind.u8.wrap (IntKind.i64.wrap (IntKind.i64.wrap (16 * hexV a) + hexV b))))]] : List (List V)) = (byteT [hexP a b]).map fun r => r.map .t := by
        simp only [byteT, hexP, List.map_cons, List.map_nil, u8_wrap]
      rw [hrow]
      refine hof.apps (byteT_flat _) (by simp [byteT]) (by rw [byteT_len, byteT_len]; simp only [maxBy, List.length_cons, List.length_nil]; omega) (by rw [byteT_len, byteT_len, List.length_cons, List.length_nil]; omega) ?_
      intro v' s' is' hle hof'
      rw [← byteT_app] at hof'
      simp -implicitDefEqProofs only [more, more2, two, S0, S1, S2, S3, S4, S5, S6, S7, S8, S9, S10, S11, S12, S13, S14, S15, S16, S17, opv, opvs, eget, env0, setD, lenStr, lenSl, isNilP, isNilS, putAt, if_true, if_false, reduceCtorEq, Nat.reduceLeDiff, Nat.reduceEqDiff, Nat.reduceSub, Nat.reduceMul, Nat.reduceAdd]
      refine lk_g ⟨i + 3, acc ++ [hexP a b], v', s', is'⟩ (by simp only; omega) ⟨by simp only; omega, hq, hof', by simp only [List.length_append, List.length_cons, List.length_nil]; omega⟩ (Nat.le_trans hbl hle) rfl ?_
      first | rfl | simp only [keep, eget, reduceCtorEq, Nat.reduceEqDiff, if_true, if_false, List.cons_append, List.nil_append, Nat.add_assoc, Nat.reduceAdd]
    simp -implicitDefEqProofs only [hx, nat_nn, Nat.zero_le, c1, hby, q_bytesOf_rows, more, S0, S1, S2, S3, S4, S5, S6, S7, S8, S9, S10, S11, S12, S13, S14, S15, S16, S17, opv, opvs, eget, env0, setD, lenStr, lenSl, isNilP, isNilS, putAt, if_true, if_false, reduceCtorEq, Nat.reduceLeDiff, Nat.reduceEqDiff, Nat.reduceSub, Nat.reduceMul, Nat.reduceAdd]
    rw [hd, qF_one g1 g2] at hq
    have hp : (decide ((x.toNat : Int) ≥ 32) && decide ((x.toNat : Int) ≤ 126)) = prtB x := rfl
    rcases h32 : decide ((x.toNat : Int) ≥ 32) with _ | _
    · rw [h32, Bool.false_and] at hp
      rw [← hp] at hq
      simp -implicitDefEqProofs only [hx, nat_nn, Nat.zero_le, c1, hby, q_bytesOf_rows, more, h32, cond_t, cond_f, S0, S1, S2, S3, S4, S5, S6, S7, S8, S9, S10, S11, S12, S13, S14, S15, S16, S17, opv, opvs, eget, env0, setD, lenStr, lenSl, isNilP, isNilS, putAt, if_true, if_false, reduceCtorEq, Nat.reduceLeDiff, Nat.reduceEqDiff, Nat.reduceSub, Nat.reduceMul, Nat.reduceAdd]
      rw [hτ]
      exact ret_same (us := [.t (.str []), .t (.int .i64 0)]) rfl hσ rfl ⟨by rw [← hq]; rfl, rfl⟩
    rw [h32, Bool.true_and] at hp
    rw [← hp] at hq
    simp -implicitDefEqProofs only [hx, nat_nn, Nat.zero_le, c1, hby, q_bytesOf_rows, more, h32, cond_t, cond_f, S0, S1, S2, S3, S4, S5, S6, S7, S8, S9, S10, S11, S12, S13, S14, S15, S16, S17, opv, opvs, eget, env0, setD, lenStr, lenSl, isNilP, isNilS, putAt, if_true, if_false, reduceCtorEq, Nat.reduceLeDiff, Nat.reduceEqDiff, Nat.reduceSub, Nat.reduceMul, Nat.reduceAdd]
    rcases hpb : decide ((x.toNat : Int) ≤ 126) with _ | _
    · simp -implicitDefEqProofs only [hx, nat_nn, Nat.zero_le, c1, hby, q_bytesOf_rows, more, hpb, cond_t, cond_f, S0, S1, S2, S3, S4, S5, S6, S7, S8, S9, S10, S11, S12, S13, S14, S15, S16, S17, opv, opvs, eget, env0, setD, lenStr, lenSl, isNilP, isNilS, putAt, if_true, if_false, reduceCtorEq, Nat.reduceLeDiff, Nat.reduceEqDiff, Nat.reduceSub, Nat.reduceMul, Nat.reduceAdd]
      rw [hpb] at hq
      rw [hτ]
      exact ret_same (us := [.t (.str []), .t (.int .i64 0)]) rfl hσ rfl ⟨by rw [← hq]; rfl, rfl⟩
    rw [hpb] at hq
    simp -implicitDefEqProofs only [hx, nat_nn, Nat.zero_le, c1, hby, q_bytesOf_rows, more, hpb, cond_t, cond_f, S0, S1, S2, S3, S4, S5, S6, S7, S8, S9, S10, S11, S12, S13, S14, S15, S16, S17, opv, opvs, eget, env0, setD, lenStr, lenSl, isNilP, isNilS, putAt, if_true, if_false, reduceCtorEq, Nat.reduceLeDiff, Nat.reduceEqDiff, Nat.reduceSub, Nat.reduceMul, Nat.reduceAdd]
    refine lit_rows ?_
    simp -implicitDefEqProofs only [S0, S1, S2, S3, S4, S5, S6, S7, S8, S9, S10, S11, S12, S13, S14, S15, S16, S17, opv, opvs, eget, env0, setD, lenStr, lenSl, isNilP, isNilS, putAt, if_true, if_false, reduceCtorEq, Nat.reduceLeDiff, Nat.reduceEqDiff, Nat.reduceSub, Nat.reduceMul, Nat.reduceAdd]
    have hrow : ([[V.t (.int .u8 (x.toNat : Int))]] : List (List V)) = (byteT [x]).map fun r => r.map .t := rfl
    first | rw [hrow] | (rw [q_rows_r _ _ rfl, hrow])
    refine hof.apps (byteT_flat _) (by simp [byteT]) (by rw [byteT_len, byteT_len]; simp only [maxBy, List.length_cons, List.length_nil]; omega) (by rw [byteT_len, byteT_len, List.length_cons, List.length_nil]; omega) ?_
    intro v' s' is' hle hof'
    rw [← byteT_app] at hof'
    try simp -implicitDefEqProofs only [more, S0, S1, S2, S3, S4, S5, S6, S7, S8, S9, S10, S11, S12, S13, S14, S15, S16, S17, opv, opvs, eget, env0, setD, lenStr, lenSl, isNilP, isNilS, putAt, if_true, if_false, reduceCtorEq, Nat.reduceLeDiff, Nat.reduceEqDiff, Nat.reduceSub, Nat.reduceMul, Nat.reduceAdd]
    exact lk_g ⟨i + 1, acc ++ [x], v', s', is'⟩ (by simp only; omega) ⟨by simp only; omega, hq, hof', by simp only [List.length_append, List.length_cons, List.length_nil]; omega⟩ (Nat.le_trans hbl hle) rfl rfl
  · have hi : i = s.length := by
      have : ¬ (i < s.length) := by simpa using h1
      omega
    subst hi
    rw [List.drop_length, qF_nil] at hq
    simp -implicitDefEqProofs only [S0, S1, S2, S3, S4, S5, S6, S7, S8, S9, S10, S11, S12, S13, S14, S15, S16, S17, opv, opvs, eget, env0, setD, lenStr, lenSl, isNilP, isNilS, putAt, if_true, if_false, reduceCtorEq, Nat.reduceLeDiff, Nat.reduceEqDiff, Nat.reduceSub, Nat.reduceMul, Nat.reduceAdd]
    rw [hτ]
    exact ret_same (us := [.t (.str []), .t (.int .i64 0)]) rfl hσ rfl ⟨by rw [← hq]; rfl, rfl⟩

def c_impl_quoted : C := (.seq (.ops [⟨(some 2), none, (.mv (.c (.t (.str []))))⟩, ⟨(some 3), none, (.mv (.c (.t (.int .i64 0))))⟩]) (.seq (.ops [⟨(some 4), none, (.mv (.c .nils))⟩]) (.seq (.seq (.ops [⟨(some 5), none, (.mv (.c (.t (.int .i64 1))))⟩]) (.block 0 (.loop (.seq (.seq (.ops [⟨(some 7), none, (.mv (.t 5))⟩, ⟨(some 8), none, (.mv (.t 0))⟩, ⟨(some 9), none, (.len true (.t 8))⟩, ⟨(some 10), none, (.bin .lss (.t 7) (.t 9))⟩]) (.cond (.t 10) .skip (.exit 0))) (.seq (.block 1 (.seq (.ops [⟨(some 13), none, (.mv (.t 0))⟩, ⟨(some 14), none, (.mv (.t 5))⟩, ⟨(some 15), none, (.index (.t 13) (.t 14))⟩, ⟨(some 6), none, (.mv (.t 15))⟩]) (.block 2 (.seq (.ops [⟨(some 17), none, (.mv (.t 6))⟩, ⟨(some 18), none, (.bin .eql (.t 17) (.c (.t (.int .u8 34))))⟩, ⟨(some 16), none, (.mv (.t 18))⟩]) (.cond (.t 16) (.seq (.ops [⟨(some 19), none, (.mv (.t 4))⟩, ⟨(some 20), none, (.bytesStr (.t 19))⟩, ⟨(some 21), none, (.mv (.t 5))⟩, ⟨(some 22), none, (.bin .add (.t 21) (.c (.t (.int .i64 1))))⟩, ⟨(some 2), none, (.mv (.t 20))⟩, ⟨(some 3), none, (.mv (.t 22))⟩]) .ret) (.seq (.ops [⟨(some 24), none, (.mv (.t 6))⟩, ⟨(some 25), none, (.bin .eql (.t 24) (.c (.t (.int .u8 92))))⟩, ⟨(some 23), none, (.mv (.t 25))⟩]) (.cond (.t 23) (.seq (.seq (.ops [⟨(some 26), none, (.mv (.t 5))⟩, ⟨(some 27), none, (.bin .add (.t 26) (.c (.t (.int .i64 2))))⟩, ⟨(some 28), none, (.mv (.t 0))⟩, ⟨(some 29), none, (.len true (.t 28))⟩, ⟨(some 30), none, (.bin .geq (.t 27) (.t 29))⟩, ⟨(some 31), none, (.mv (.t 30))⟩, ⟨(some 32), (some ⟨31, false⟩), (.mv (.t 0))⟩, ⟨(some 33), (some ⟨31, false⟩), (.mv (.t 5))⟩, ⟨(some 34), (some ⟨31, false⟩), (.bin .add (.t 33) (.c (.t (.int .i64 1))))⟩, ⟨(some 35), (some ⟨31, false⟩), (.index (.t 32) (.t 34))⟩, ⟨(some 36), (some ⟨31, false⟩), (.call (.c (.fn (.func 32) [])) [(.t 35)])⟩, ⟨(some 37), (some ⟨31, false⟩), (.bin .lss (.t 36) (.c (.t (.int .i64 0))))⟩, ⟨(some 38), none, (.pick (.t 31) (.c (.t (.bool true))) (.t 37))⟩, ⟨(some 39), none, (.mv (.t 38))⟩, ⟨(some 40), (some ⟨39, false⟩), (.mv (.t 0))⟩, ⟨(some 41), (some ⟨39, false⟩), (.mv (.t 5))⟩, ⟨(some 42), (some ⟨39, false⟩), (.bin .add (.t 41) (.c (.t (.int .i64 2))))⟩, ⟨(some 43), (some ⟨39, false⟩), (.index (.t 40) (.t 42))⟩, ⟨(some 44), (some ⟨39, false⟩), (.call (.c (.fn (.func 32) [])) [(.t 43)])⟩, ⟨(some 45), (some ⟨39, false⟩), (.bin .lss (.t 44) (.c (.t (.int .i64 0))))⟩, ⟨(some 46), none, (.pick (.t 39) (.c (.t (.bool true))) (.t 45))⟩]) (.cond (.t 46) (.seq (.ops [⟨(some 2), none, (.mv (.c (.t (.str []))))⟩, ⟨(some 3), none, (.mv (.c (.t (.int .i64 0))))⟩]) .ret) .skip)) (.seq (.drawn [(.mk 0 false ⟨(some 47), none, (.mv (.t 4))⟩), (.mk 1 false ⟨(some 48), none, (.mv (.t 0))⟩), (.mk 2 false ⟨(some 49), none, (.mv (.t 5))⟩), (.mk 3 false ⟨(some 50), none, (.bin .add (.t 49) (.c (.t (.int .i64 1))))⟩), (.mk 4 false ⟨(some 51), none, (.index (.t 48) (.t 50))⟩), (.mk 7 false ⟨(some 54), none, (.mv (.t 0))⟩), (.mk 8 false ⟨(some 55), none, (.mv (.t 5))⟩), (.mk 9 false ⟨(some 56), none, (.bin .add (.t 55) (.c (.t (.int .i64 2))))⟩), (.mk 10 false ⟨(some 57), none, (.index (.t 54) (.t 56))⟩), (.mk 5 false ⟨(some 52), none, (.call (.c (.fn (.func 32) [])) [(.t 51)])⟩), (.mk 6 false ⟨(some 53), none, (.bin .mul (.c (.t (.int .i64 16))) (.t 52))⟩), (.mk 11 false ⟨(some 58), none, (.call (.c (.fn (.func 32) [])) [(.t 57)])⟩), (.mk 12 false ⟨(some 59), none, (.bin .add (.t 53) (.t 58))⟩), (.mk 13 false ⟨(some 60), none, (.convInt .u8 (.t 59))⟩), (.mk 14 false ⟨(some 61), none, (.lit (some false) 1 1 [(.t (.int .u8 0))] [⟨0, (.t 60)⟩])⟩), (.mk 15 false ⟨(some 62), none, (.append 1 1 (.t 47) (.t 61))⟩), (.mk 16 true ⟨(some 4), none, (.mv (.t 62))⟩)]) (.ops [⟨(some 63), none, (.mv (.t 5))⟩, ⟨(some 64), none, (.bin .add (.t 63) (.c (.t (.int .i64 2))))⟩, ⟨(some 5), none, (.mv (.t 64))⟩]))) (.seq (.ops [⟨(some 66), none, (.mv (.t 6))⟩, ⟨(some 67), none, (.call (.c (.fn (.func 18) [])) [(.t 66)])⟩, ⟨(some 65), none, (.mv (.t 67))⟩]) (.cond (.t 65) (.ops [⟨(some 68), none, (.mv (.t 4))⟩, ⟨(some 69), none, (.mv (.t 6))⟩, ⟨(some 70), none, (.lit none 1 1 [(.t (.int .u8 0))] [⟨0, (.t 69)⟩])⟩, ⟨(some 71), none, (.append 1 1 (.t 68) (.t 70))⟩, ⟨(some 4), none, (.mv (.t 71))⟩]) (.seq (.ops [⟨(some 2), none, (.mv (.c (.t (.str []))))⟩, ⟨(some 3), none, (.mv (.c (.t (.int .i64 0))))⟩]) .ret)))))))))) (.ops [⟨(some 11), none, (.mv (.t 5))⟩, ⟨(some 12), none, (.bin .add (.t 11) (.c (.t (.int .i64 1))))⟩, ⟨(some 5), none, (.mv (.t 12))⟩])))))) (.seq (.ops [⟨(some 2), none, (.mv (.c (.t (.str []))))⟩, ⟨(some 3), none, (.mv (.c (.t (.int .i64 0))))⟩]) .ret))))
theorem k_impl_quoted : comp Try.prog 72 (Try.f30.body.getD .skip) = some c_impl_quoted := by kernel_rfl

theorem impl_quoted (q : UInt8) (s : List UInt8) (hs : s.length ≤ 1048576) (σ : Store) : ACalls Try.prog 30 [.t (.str (q :: s))] σ fun rr σ' => rr = qR 1 (qF s [] 0) ∧ σ' = σ := by
  refine acalls_of Try.func30 (by decide +kernel) (code := Try.f30.body.getD .skip) (n := 72) (c := c_impl_quoted) (rs := [(.tmp 2), (.tmp 3)]) rfl rfl k_impl_quoted (by kernel_rfl) (by simp) (fun hσ => ?_)
  have c1 : 0 < 1 := by omega
  simp -implicitDefEqProofs only [c_impl_quoted, S0, S1, S2, S3, S4, S5, S6, S7, S8, S9, S10, S11, S12, S13, S14, S15, S16, S17, opv, opvs, eget, env0, setD, lenStr, lenSl, isNilP, isNilS, putAt, if_true, if_false, reduceCtorEq, Nat.reduceLeDiff, Nat.reduceEqDiff, Nat.reduceSub, Nat.reduceMul, Nat.reduceAdd]
  have hlS : (q :: s).length = s.length + 1 := rfl
  refine loop_g [4, 5, 0] [0] (fun g : Gq => [(4, g.v), (5, .t (.int .i64 ((g.i + 1 : Nat) : Int)))]) (fun g => g.s) (fun g => g.i ≤ s.length ∧ qF (s.drop g.i) g.acc g.i = qF s [] 0 ∧ OFl σ 1 (byteT g.acc) g.v g.s g.is ∧ g.acc.length ≤ g.i) (fun g => s.length - g.i) ⟨0, [], .nils, σ, []⟩ (Nat.le_refl _) ⟨Nat.zero_le _, rfl, OFl.nils (by omega), Nat.le_refl _⟩ rfl rfl ?_
  rintro ⟨i, acc, v, st, is⟩ ⟨hk, hq, hof, hac⟩
  simp only at hk hq hof hac
  have hbl : σ.length ≤ st.length := hof.le
  have hby := hof.bytes
  obtain ⟨τ0, hτ⟩ := OFl.same (B := []) (by rw [List.append_nil]; exact hof)
  have fin : ∀ {u : V} {τ : Store}, u = qR 1 (qF s [] 0) → u.lt σ.length = true → retV σ.length (fun rr σ' => rr = qR 1 (qF s [] 0) ∧ σ' = σ) (σ ++ τ) (some (match u with | .tup us => us | u => [u])) → True := fun _ _ _ => trivial
  simp -implicitDefEqProofs only [keep, hlS, S0, S1, S2, S3, S4, S5, S6, S7, S8, S9, S10, S11, S12, S13, S14, S15, S16, S17, opv, opvs, eget, env0, setD, lenStr, lenSl, isNilP, isNilS, putAt, if_true, if_false, reduceCtorEq, Nat.reduceLeDiff, Nat.reduceEqDiff, Nat.reduceSub, Nat.reduceMul, Nat.reduceAdd]
  refine cond_split (fun h1 => ?_) (fun h1 => ?_)
  · have hlt : i < s.length := by simp at h1; omega
    obtain ⟨x, hx0⟩ : ∃ x, s[i]? = some x := ⟨s[i], by simp [hlt]⟩
    have hx : (q :: s)[i + 1]? = some x := hx0
    have more := i64_succ (show (i + 1) < 4611686018427387904 by omega)
    have more1 := i64_succ (show (i + 1) + 1 < 4611686018427387904 by omega)
    have more2 := i64_succ (show (i + 1) + 2 < 4611686018427387904 by omega)
    have two : IntKind.i64.wrap ((((i + 1) : Nat) : Int) + 2) = (((i + 1) + 2 : Nat) : Int) := IntWalk.i64_in _ (by omega)
    have hd := drop_of hx0
    clear h1
    simp -implicitDefEqProofs only [hx, nat_nn, Nat.zero_le, c1, hby, q_bytesOf_rows, more, hlS, S0, S1, S2, S3, S4, S5, S6, S7, S8, S9, S10, S11, S12, S13, S14, S15, S16, S17, opv, opvs, eget, env0, setD, lenStr, lenSl, isNilP, isNilS, putAt, if_true, if_false, reduceCtorEq, Nat.reduceLeDiff, Nat.reduceEqDiff, Nat.reduceSub, Nat.reduceMul, Nat.reduceAdd]
    refine cond_split (fun g1 => ?_) (fun g1 => ?_)
    · rw [hd, qF_end g1] at hq
      simp -implicitDefEqProofs only [hx, nat_nn, Nat.zero_le, c1, hby, q_bytesOf_rows, more, hlS, S0, S1, S2, S3, S4, S5, S6, S7, S8, S9, S10, S11, S12, S13, S14, S15, S16, S17, opv, opvs, eget, env0, setD, lenStr, lenSl, isNilP, isNilS, putAt, if_true, if_false, reduceCtorEq, Nat.reduceLeDiff, Nat.reduceEqDiff, Nat.reduceSub, Nat.reduceMul, Nat.reduceAdd]
      rw [hτ]
      exact ret_same (us := [.t (.str acc), .t (.int .i64 (((i + 1) + 1 : Nat) : Int))]) rfl hσ rfl ⟨by rw [← hq]; simp only [mkRes, qR]; first | rfl | simp, rfl⟩
    simp -implicitDefEqProofs only [hx, nat_nn, Nat.zero_le, c1, hby, q_bytesOf_rows, more, hlS, S0, S1, S2, S3, S4, S5, S6, S7, S8, S9, S10, S11, S12, S13, S14, S15, S16, S17, opv, opvs, eget, env0, setD, lenStr, lenSl, isNilP, isNilS, putAt, if_true, if_false, reduceCtorEq, Nat.reduceLeDiff, Nat.reduceEqDiff, Nat.reduceSub, Nat.reduceMul, Nat.reduceAdd]
    refine cond_split (fun g2 => ?_) (fun g2 => ?_)
    · simp -implicitDefEqProofs only [hx, nat_nn, Nat.zero_le, c1, hby, q_bytesOf_rows, more, hlS, two, S0, S1, S2, S3, S4, S5, S6, S7, S8, S9, S10, S11, S12, S13, S14, S15, S16, S17, opv, opvs, eget, env0, setD, lenStr, lenSl, isNilP, isNilS, putAt, if_true, if_false, reduceCtorEq, Nat.reduceLeDiff, Nat.reduceEqDiff, Nat.reduceSub, Nat.reduceMul, Nat.reduceAdd]
      rcases Nat.lt_or_ge (i + 2) s.length with h3 | h3
      rotate_left
      · have d3 : decide ((((i + 1) + 2 : Nat) : Int) ≥ ((s.length + 1 : Nat) : Int)) = true := by simp; omega
        rw [hd, qF_bad g1 g2 (by rw [List.length_drop]; omega)] at hq
        simp -implicitDefEqProofs only [d3, cond_t, cond_f, S0, S1, S2, S3, S4, S5, S6, S7, S8, S9, S10, S11, S12, S13, S14, S15, S16, S17, opv, opvs, eget, env0, setD, lenStr, lenSl, isNilP, isNilS, putAt, if_true, if_false, reduceCtorEq, Nat.reduceLeDiff, Nat.reduceEqDiff, Nat.reduceSub, Nat.reduceMul, Nat.reduceAdd]
        rw [hτ]
        exact ret_same (us := [.t (.str []), .t (.int .i64 0)]) rfl hσ rfl ⟨by rw [← hq]; rfl, rfl⟩
      obtain ⟨c, a, b, e1, e2, e3, e4⟩ := drop3 h3
      rw [hx0] at e1
      obtain rfl := Option.some.inj e1
      have d3 : decide ((((i + 1) + 2 : Nat) : Int) ≥ ((s.length + 1 : Nat) : Int)) = false := by simp; omega
      have e2 : (q :: s)[i + 1 + 1]? = some a := e2
      have e3 : (q :: s)[i + 1 + 2]? = some b := e3
      rw [e4, qF_hex g1 g2] at hq
      have hva := hexV_bnd a
      have hvb := hexV_bnd b
      simp -implicitDefEqProofs only [d3, cond_t, cond_f, nat_nn, Nat.zero_le, e2, e3, more, two, S0, S1, S2, S3, S4, S5, S6, S7, S8, S9, S10, S11, S12, S13, S14, S15, S16, S17, opv, opvs, eget, env0, setD, lenStr, lenSl, isNilP, isNilS, putAt, if_true, if_false, reduceCtorEq, Nat.reduceLeDiff, Nat.reduceEqDiff, Nat.reduceSub, Nat.reduceMul, Nat.reduceAdd]
      refine call_pure (impl_hexOf a _) ?_
      simp -implicitDefEqProofs only [d3, cond_t, cond_f, nat_nn, Nat.zero_le, e2, e3, more, two, S0, S1, S2, S3, S4, S5, S6, S7, S8, S9, S10, S11, S12, S13, S14, S15, S16, S17, opv, opvs, eget, env0, setD, lenStr, lenSl, isNilP, isNilS, putAt, if_true, if_false, reduceCtorEq, Nat.reduceLeDiff, Nat.reduceEqDiff, Nat.reduceSub, Nat.reduceMul, Nat.reduceAdd]
      rcases ha : decide (hexV a < 0) with _ | _
      rotate_left
      · simp -implicitDefEqProofs only [ha, cond_t, cond_f, S0, S1, S2, S3, S4, S5, S6, S7, S8, S9, S10, S11, S12, S13, S14, S15, S16, S17, opv, opvs, eget, env0, setD, lenStr, lenSl, isNilP, isNilS, putAt, if_true, if_false, reduceCtorEq, Nat.reduceLeDiff, Nat.reduceEqDiff, Nat.reduceSub, Nat.reduceMul, Nat.reduceAdd]
        rw [ha] at hq
        rw [hτ]
        exact ret_same (us := [.t (.str []), .t (.int .i64 0)]) rfl hσ rfl ⟨by rw [← hq]; rfl, rfl⟩
      simp -implicitDefEqProofs only [ha, cond_t, cond_f, nat_nn, Nat.zero_le, e2, e3, more, two, S0, S1, S2, S3, S4, S5, S6, S7, S8, S9, S10, S11, S12, S13, S14, S15, S16, S17, opv, opvs, eget, env0, setD, lenStr, lenSl, isNilP, isNilS, putAt, if_true, if_false, reduceCtorEq, Nat.reduceLeDiff, Nat.reduceEqDiff, Nat.reduceSub, Nat.reduceMul, Nat.reduceAdd]
      refine call_pure (impl_hexOf b _) ?_
      simp -implicitDefEqProofs only [ha, cond_t, cond_f, nat_nn, Nat.zero_le, e2, e3, more, two, S0, S1, S2, S3, S4, S5, S6, S7, S8, S9, S10, S11, S12, S13, S14, S15, S16, S17, opv, opvs, eget, env0, setD, lenStr, lenSl, isNilP, isNilS, putAt, if_true, if_false, reduceCtorEq, Nat.reduceLeDiff, Nat.reduceEqDiff, Nat.reduceSub, Nat.reduceMul, Nat.reduceAdd]
      rcases hb : decide (hexV b < 0) with _ | _
      rotate_left
      · simp -implicitDefEqProofs only [ha, hb, cond_t, cond_f, S0, S1, S2, S3, S4, S5, S6, S7, S8, S9, S10, S11, S12, S13, S14, S15, S16, S17, opv, opvs, eget, env0, setD, lenStr, lenSl, isNilP, isNilS, putAt, if_true, if_false, reduceCtorEq, Nat.reduceLeDiff, Nat.reduceEqDiff, Nat.reduceSub, Nat.reduceMul, Nat.reduceAdd]
        rw [ha, hb] at hq
        rw [hτ]
        exact ret_same (us := [.t (.str []), .t (.int .i64 0)]) rfl hσ rfl ⟨by rw [← hq]; rfl, rfl⟩
      rw [ha, hb] at hq
      simp -implicitDefEqProofs only [ha, hb, cond_t, cond_f, nat_nn, Nat.zero_le, e2, e3, more, two, c1, S0, S1, S2, S3, S4, S5, S6, S7, S8, S9, S10, S11, S12, S13, S14, S15, S16, S17, opv, opvs, eget, env0, setD, lenStr, lenSl, isNilP, isNilS, putAt, if_true, if_false, reduceCtorEq, Nat.reduceLeDiff, Nat.reduceEqDiff, Nat.reduceSub, Nat.reduceMul, Nat.reduceAdd]
      refine call_pure (impl_hexOf a _) ?_
      simp -implicitDefEqProofs only [ha, hb, cond_t, cond_f, nat_nn, Nat.zero_le, e2, e3, more, two, c1, S0, S1, S2, S3, S4, S5, S6, S7, S8, S9, S10, S11, S12, S13, S14, S15, S16, S17, opv, opvs, eget, env0, setD, lenStr, lenSl, isNilP, isNilS, putAt, if_true, if_false, reduceCtorEq, Nat.reduceLeDiff, Nat.reduceEqDiff, Nat.reduceSub, Nat.reduceMul, Nat.reduceAdd]
      refine call_pure (impl_hexOf b _) ?_
      simp -implicitDefEqProofs only [ha, hb, cond_t, cond_f, nat_nn, Nat.zero_le, e2, e3, more, two, c1, S0, S1, S2, S3, S4, S5, S6, S7, S8, S9, S10, S11, S12, S13, S14, S15, S16, S17, opv, opvs, eget, env0, setD, lenStr, lenSl, isNilP, isNilS, putAt, if_true, if_false, reduceCtorEq, Nat.reduceLeDiff, Nat.reduceEqDiff, Nat.reduceSub, Nat.reduceMul, Nat.reduceAdd]
      have hrow : ([[V.t (.int .u8 (IntKind.u8.wrap (IntKind.i64.wrap (IntKind.i64.wrap (16 * hexV a) + hexV b))))]] : List (List V)) = (byteT [hexP a b]).map fun r => r.map .t := by
        simp only [byteT, hexP, List.map_cons, List.map_nil, u8_wrap]
      rw [hrow]
      refine hof.apps (byteT_flat _) (by simp [byteT]) (by rw [byteT_len, byteT_len]; simp only [maxBy, List.length_cons, List.length_nil]; omega) (by rw [byteT_len, byteT_len, List.length_cons, List.length_nil]; omega) ?_
      intro v' s' is' hle hof'
      rw [← byteT_app] at hof'
      simp -implicitDefEqProofs only [more, more2, two, S0, S1, S2, S3, S4, S5, S6, S7, S8, S9, S10, S11, S12, S13, S14, S15, S16, S17, opv, opvs, eget, env0, setD, lenStr, lenSl, isNilP, isNilS, putAt, if_true, if_false, reduceCtorEq, Nat.reduceLeDiff, Nat.reduceEqDiff, Nat.reduceSub, Nat.reduceMul, Nat.reduceAdd]
      refine lk_g ⟨i + 3, acc ++ [hexP a b], v', s', is'⟩ (by simp only; omega) ⟨by simp only; omega, hq, hof', by simp only [List.length_append, List.length_cons, List.length_nil]; omega⟩ (Nat.le_trans hbl hle) rfl ?_
      first | rfl | simp only [keep, eget, reduceCtorEq, Nat.reduceEqDiff, if_true, if_false, List.cons_append, List.nil_append, Nat.add_assoc, Nat.reduceAdd]
    simp -implicitDefEqProofs only [hx, nat_nn, Nat.zero_le, c1, hby, q_bytesOf_rows, more, hlS, S0, S1, S2, S3, S4, S5, S6, S7, S8, S9, S10, S11, S12, S13, S14, S15, S16, S17, opv, opvs, eget, env0, setD, lenStr, lenSl, isNilP, isNilS, putAt, if_true, if_false, reduceCtorEq, Nat.reduceLeDiff, Nat.reduceEqDiff, Nat.reduceSub, Nat.reduceMul, Nat.reduceAdd]
    rw [hd, qF_one g1 g2] at hq
    refine call_pure (impl_selfByte x _) ?_
    have hp : prtB x = selfB x := by simp only [prtB, selfB, g1, g2, Bool.not_false, Bool.and_true]
    rw [hp] at hq
    simp -implicitDefEqProofs only [hx, nat_nn, Nat.zero_le, c1, hby, q_bytesOf_rows, more, hlS, S0, S1, S2, S3, S4, S5, S6, S7, S8, S9, S10, S11, S12, S13, S14, S15, S16, S17, opv, opvs, eget, env0, setD, lenStr, lenSl, isNilP, isNilS, putAt, if_true, if_false, reduceCtorEq, Nat.reduceLeDiff, Nat.reduceEqDiff, Nat.reduceSub, Nat.reduceMul, Nat.reduceAdd]
    rcases hpb : selfB x with _ | _
    · simp -implicitDefEqProofs only [hx, nat_nn, Nat.zero_le, c1, hby, q_bytesOf_rows, more, hlS, hpb, cond_t, cond_f, S0, S1, S2, S3, S4, S5, S6, S7, S8, S9, S10, S11, S12, S13, S14, S15, S16, S17, opv, opvs, eget, env0, setD, lenStr, lenSl, isNilP, isNilS, putAt, if_true, if_false, reduceCtorEq, Nat.reduceLeDiff, Nat.reduceEqDiff, Nat.reduceSub, Nat.reduceMul, Nat.reduceAdd]
      rw [hpb] at hq
      rw [hτ]
      exact ret_same (us := [.t (.str []), .t (.int .i64 0)]) rfl hσ rfl ⟨by rw [← hq]; rfl, rfl⟩
    rw [hpb] at hq
    simp -implicitDefEqProofs only [hx, nat_nn, Nat.zero_le, c1, hby, q_bytesOf_rows, more, hlS, hpb, cond_t, cond_f, S0, S1, S2, S3, S4, S5, S6, S7, S8, S9, S10, S11, S12, S13, S14, S15, S16, S17, opv, opvs, eget, env0, setD, lenStr, lenSl, isNilP, isNilS, putAt, if_true, if_false, reduceCtorEq, Nat.reduceLeDiff, Nat.reduceEqDiff, Nat.reduceSub, Nat.reduceMul, Nat.reduceAdd]
    refine lit_rows ?_
    simp -implicitDefEqProofs only [S0, S1, S2, S3, S4, S5, S6, S7, S8, S9, S10, S11, S12, S13, S14, S15, S16, S17, opv, opvs, eget, env0, setD, lenStr, lenSl, isNilP, isNilS, putAt, if_true, if_false, reduceCtorEq, Nat.reduceLeDiff, Nat.reduceEqDiff, Nat.reduceSub, Nat.reduceMul, Nat.reduceAdd]
    have hrow : ([[V.t (.int .u8 (x.toNat : Int))]] : List (List V)) = (byteT [x]).map fun r => r.map .t := rfl
    first | rw [hrow] | (rw [q_rows_r _ _ rfl, hrow])
    refine hof.apps (byteT_flat _) (by simp [byteT]) (by rw [byteT_len, byteT_len]; simp only [maxBy, List.length_cons, List.length_nil]; omega) (by rw [byteT_len, byteT_len, List.length_cons, List.length_nil]; omega) ?_
    intro v' s' is' hle hof'
    rw [← byteT_app] at hof'
    try simp -implicitDefEqProofs only [more, S0, S1, S2, S3, S4, S5, S6, S7, S8, S9, S10, S11, S12, S13, S14, S15, S16, S17, opv, opvs, eget, env0, setD, lenStr, lenSl, isNilP, isNilS, putAt, if_true, if_false, reduceCtorEq, Nat.reduceLeDiff, Nat.reduceEqDiff, Nat.reduceSub, Nat.reduceMul, Nat.reduceAdd]
    exact lk_g ⟨i + 1, acc ++ [x], v', s', is'⟩ (by simp only; omega) ⟨by simp only; omega, hq, hof', by simp only [List.length_append, List.length_cons, List.length_nil]; omega⟩ (Nat.le_trans hbl hle) rfl rfl
  · have hi : i = s.length := by
      have : ¬ (i < s.length) := by simp at h1; omega
      omega
    subst hi
    rw [List.drop_length, qF_nil] at hq
    simp -implicitDefEqProofs only [S0, S1, S2, S3, S4, S5, S6, S7, S8, S9, S10, S11, S12, S13, S14, S15, S16, S17, opv, opvs, eget, env0, setD, lenStr, lenSl, isNilP, isNilS, putAt, if_true, if_false, reduceCtorEq, Nat.reduceLeDiff, Nat.reduceEqDiff, Nat.reduceSub, Nat.reduceMul, Nat.reduceAdd]
    rw [hτ]
    exact ret_same (us := [.t (.str []), .t (.int .i64 0)]) rfl hσ rfl ⟨by rw [← hq]; rfl, rfl⟩

end Go.Proofs.Ytkppdeobinefbaa.W

end
