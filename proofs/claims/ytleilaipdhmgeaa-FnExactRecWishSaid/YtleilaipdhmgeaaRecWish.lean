/- Whether a text stands in slots. Conditions: none. -/
/- RecWish of the reference and of the program. Conditions: none. -/
import Derived.Test.YtleilaipdhmgeaaRecRise
import Derived.Test.YtleilaipdhmgeaaAb4
set_option linter.unusedSimpArgs false
set_option linter.unusedVariables false
set_option linter.defProp false

section
open Go Go.Ab
set_option maxHeartbeats 2000000
namespace Go.Proofs.Ytleilaipdhmgeaa.W
def noT (w : List UInt8) (x : RecSlot) : Bool := !(x.Text == w)
def noTB (w : List UInt8) (x : RecSlot) : Bool := !(decide (x.Ballot > 0) && x.Text == w)
def c_spec_l23Has : C := (.seq (.ops [⟨(some 4), none, (.mv (.c (.t (.bool false))))⟩]) (.seq (.seq (.ops [⟨(some 5), none, (.mv (.c (.t (.int .i64 0))))⟩]) (.block 0 (.loop (.seq (.seq (.ops [⟨(some 6), none, (.mv (.t 5))⟩, ⟨(some 7), none, (.mv (.t 0))⟩, ⟨(some 8), none, (.len false (.t 7))⟩, ⟨(some 9), none, (.bin .lss (.t 6) (.t 8))⟩]) (.cond (.t 9) .skip (.exit 0))) (.seq (.block 1 (.seq (.ops [⟨(some 12), none, (.mv (.t 0))⟩, ⟨(some 13), none, (.mv (.t 5))⟩, ⟨(some 14), none, (.indexAddr 2 (.t 12) (.t 13))⟩, ⟨(some 15), none, (.fieldAddr 0 (.t 14))⟩, ⟨(some 16), none, (.load none (.t 15))⟩, ⟨(some 17), none, (.bin .gtr (.t 16) (.c (.t (.int .i64 0))))⟩, ⟨(some 18), none, (.mv (.t 17))⟩, ⟨(some 19), (some ⟨18, true⟩), (.mv (.t 0))⟩, ⟨(some 20), (some ⟨18, true⟩), (.mv (.t 5))⟩, ⟨(some 21), (some ⟨18, true⟩), (.indexAddr 2 (.t 19) (.t 20))⟩, ⟨(some 22), (some ⟨18, true⟩), (.fieldAddr 1 (.t 21))⟩, ⟨(some 23), (some ⟨18, true⟩), (.load none (.t 22))⟩, ⟨(some 24), (some ⟨18, true⟩), (.mv (.t 1))⟩, ⟨(some 25), (some ⟨18, true⟩), (.bin .eql (.t 23) (.t 24))⟩, ⟨(some 26), none, (.pick (.t 18) (.t 25) (.c (.t (.bool false))))⟩]) (.cond (.t 26) (.seq (.ops [⟨(some 4), none, (.mv (.c (.t (.bool true))))⟩]) .ret) .skip))) (.ops [⟨(some 10), none, (.mv (.t 5))⟩, ⟨(some 11), none, (.bin .add (.t 10) (.c (.t (.int .i64 1))))⟩, ⟨(some 5), none, (.mv (.t 11))⟩])))))) (.seq (.ops [⟨(some 4), none, (.mv (.c (.t (.bool false))))⟩]) .ret)))
theorem k_spec_l23Has : comp Try.prog 27 (Try.f158.body.getD .skip) = some c_spec_l23Has := by kernel_rfl

theorem spec_l23Has (l : List RecSlot) (hl : l.length ≤ 1048576) (w : List UInt8)  (σ : Store) : ACalls Try.prog 158 [.t (tRecSlotS l), .t (.str (w))] σ fun rr σ' => rr = .t (.bool (!(l.all (noTB w)))) ∧ σ' = σ := by
  refine acalls_of Try.func158 (by decide +kernel) (code := Try.f158.body.getD .skip) (n := 27) (c := c_spec_l23Has) (rs := [(.tmp 4)]) rfl rfl k_spec_l23Has (by kernel_rfl) (by simp) (fun hσ => ?_)
  have hh : True := trivial
  have fin : ∀ {u : V} {τ : Store}, u = .t (.bool (!(l.all (noTB w)))) → u.lt σ.length = true → retV σ.length (fun rr σ' => rr = .t (.bool (!(l.all (noTB w)))) ∧ σ' = σ) (σ ++ τ) (some [u]) := fun h h2 => ret_same rfl hσ h2 ⟨h, rfl⟩
  have fin0 : ∀ {u : V}, u = .t (.bool (!(l.all (noTB w)))) → retV σ.length (fun rr σ' => rr = .t (.bool (!(l.all (noTB w)))) ∧ σ' = σ) σ (some [u]) := fun h => ret_same0 rfl ⟨h, rfl⟩
  simp -implicitDefEqProofs only [c_spec_l23Has, tRecSlotS, List.length_map, S0, S1, S2, S3, S4, S5, S6, S7, S8, S9, S10, S11, S12, S13, S14, S15, opv, opvs, eget, env0, setD, lenStr, lenSl, isNilP, isNilS, putAt, if_true, if_false, reduceCtorEq, Nat.reduceLeDiff, Nat.reduceEqDiff, Nat.reduceSub, Nat.reduceMul, Nat.reduceAdd]
  refine loop_p [5, 0, 1] [0, 1] (fun k : Nat => [(5, .t (.int .i64 (k : Nat)))]) (fun k => k ≤ (l).length ∧ ((l).take k).all (noTB w) = true) (fun k => (l).length - k) 0 (by simp) ⟨Nat.zero_le _, rfl⟩ rfl ?_
  rintro k ⟨hk, hall⟩
  simp -implicitDefEqProofs only [keep, List.length_map, S0, S1, S2, S3, S4, S5, S6, S7, S8, S9, S10, S11, S12, S13, S14, S15, opv, opvs, eget, env0, setD, lenStr, lenSl, isNilP, isNilS, putAt, if_true, if_false, reduceCtorEq, Nat.reduceLeDiff, Nat.reduceEqDiff, Nat.reduceSub, Nat.reduceMul, Nat.reduceAdd]
  refine cond_split (fun h1 => ?_) (fun h1 => ?_)
  · obtain ⟨x, hx, hlt⟩ := at_of h1
    clear h1 hh
    have hh : True := trivial
    simp -implicitDefEqProofs only [hx, nat_nn, Nat.zero_le, List.getElem?_map, Option.map_some, RecSlot.ts, List.length_map, i64_succ (show k < 4611686018427387904 by omega), S0, S1, S2, S3, S4, S5, S6, S7, S8, S9, S10, S11, S12, S13, S14, S15, opv, opvs, eget, env0, setD, lenStr, lenSl, isNilP, isNilS, putAt, if_true, if_false, reduceCtorEq, Nat.reduceLeDiff, Nat.reduceEqDiff, Nat.reduceSub, Nat.reduceMul, Nat.reduceAdd]
    repeat' (first
    | ((with_reducible refine cond_known (fun h => ?_) (fun h => ?_)) <;> (replace hh := And.intro h hh; clear h; simp -implicitDefEqProofs only [hh, cond_t, cond_f, hx, nat_nn, Nat.zero_le, List.getElem?_map, Option.map_some, RecSlot.ts, List.length_map, i64_succ (show k < 4611686018427387904 by omega), S0, S1, S2, S3, S4, S5, S6, S7, S8, S9, S10, S11, S12, S13, S14, S15, opv, opvs, eget, env0, setD, lenStr, lenSl, isNilP, isNilS, putAt, if_true, if_false, reduceCtorEq, Nat.reduceLeDiff, Nat.reduceEqDiff, Nat.reduceSub, Nat.reduceMul, Nat.reduceAdd]))
    | (first | ((with_reducible refine fin0 ?_); refine tb ?_; (try simp only [Known] at hh); have hno := all_not (l := (l)) (p := (noTB w)) hx; rw [hno (by grind [noTB])]; rfl) | ((with_reducible refine fin ?_ ?_); rotate_left; exact rfl; refine tb ?_; (try simp only [Known] at hh); have hno := all_not (l := (l)) (p := (noTB w)) hx; rw [hno (by grind [noTB])]; rfl) | (refine lk_p0 (k + 1) (by simp) (by simp) (by omega) ⟨by omega, all_step hx hall ?_⟩ rfl; (try simp only [Known] at hh); grind [noTB]) | (refine lk_p (k + 1) (by simp) (by simp) hσ rfl (by omega) ⟨by omega, all_step hx hall ?_⟩ rfl rfl; (try simp only [Known] at hh); grind [noTB]) | (refine lk_pm (k + 1) (Nat.le_refl _) (by simp) hσ rfl rfl (by omega) ⟨by omega, all_step hx hall ?_⟩ (by simp [ltE, keep, eget, V.lt]) rfl; (try simp only [Known] at hh); grind [noTB])))
  replace hall := all_len hall ((end_of h1 hk).trans (by rfl))
  clear h1 hk
  simp -implicitDefEqProofs only [S0, S1, S2, S3, S4, S5, S6, S7, S8, S9, S10, S11, S12, S13, S14, S15, opv, opvs, eget, env0, setD, lenStr, lenSl, isNilP, isNilS, putAt, if_true, if_false, reduceCtorEq, Nat.reduceLeDiff, Nat.reduceEqDiff, Nat.reduceSub, Nat.reduceMul, Nat.reduceAdd]
  (first | ((with_reducible refine fin0 ?_); refine tb ?_; (try simp only [Known] at hh); rw [hall]; rfl) | ((with_reducible refine fin ?_ ?_); rotate_left; exact rfl; refine tb ?_; (try simp only [Known] at hh); rw [hall]; rfl))
end Go.Proofs.Ytleilaipdhmgeaa.W

end


section
open Go Go.Ab
set_option maxHeartbeats 2000000
namespace Go.Proofs.Ytleilaipdhmgeaa.W
def c_spec_l23Wish : C := (.seq (.ops [⟨(some 2), none, (.box (.t 0))⟩, ⟨(some 4), none, (.new [(.t (.int .i64 0)), (.t (.int .i64 0)), (.t (.bool false)), (.t (.int .i64 0)), (.t (.int .i64 0)), .nils, (.t (.int .i64 0)), (.t (.int .i64 0)), .nils, .nils, .nils, (.t (.bool false)), (.t (.bool false)), (.t (.int .i64 0)), .nils, .nils, .nils, (.t (.int .i64 0))])⟩]) (.seq (.seq (.ops [⟨(some 6), none, (.mv (.t 1))⟩, ⟨(some 7), none, (.len true (.t 6))⟩, ⟨(some 8), none, (.bin .lss (.t 7) (.c (.t (.int .i64 1))))⟩, ⟨(some 9), none, (.mv (.t 8))⟩, ⟨(some 10), (some ⟨9, false⟩), (.mv (.t 1))⟩, ⟨(some 11), (some ⟨9, false⟩), (.len true (.t 10))⟩, ⟨(some 12), (some ⟨9, false⟩), (.bin .gtr (.t 11) (.c (.t (.int .i64 160))))⟩, ⟨(some 13), none, (.pick (.t 9) (.c (.t (.bool true))) (.t 12))⟩, ⟨(some 14), none, (.mv (.t 13))⟩, ⟨(some 15), (some ⟨14, false⟩), (.fieldAddr 10 (.t 2))⟩, ⟨(some 16), (some ⟨14, false⟩), (.load none (.t 15))⟩, ⟨(some 17), (some ⟨14, false⟩), (.len false (.t 16))⟩, ⟨(some 18), (some ⟨14, false⟩), (.bin .geq (.t 17) (.c (.t (.int .i64 20))))⟩, ⟨(some 19), none, (.pick (.t 14) (.c (.t (.bool true))) (.t 18))⟩, ⟨(some 20), none, (.mv (.t 19))⟩, ⟨(some 21), (some ⟨20, false⟩), (.fieldAddr 6 (.t 2))⟩, ⟨(some 22), (some ⟨20, false⟩), (.fieldAddr 2 (.t 21))⟩, ⟨(some 23), (some ⟨20, false⟩), (.load none (.t 22))⟩, ⟨(some 24), (some ⟨20, false⟩), (.fieldAddr 6 (.t 2))⟩, ⟨(some 25), (some ⟨20, false⟩), (.fieldAddr 1 (.t 24))⟩, ⟨(some 26), (some ⟨20, false⟩), (.load none (.t 25))⟩, ⟨(some 27), (some ⟨20, false⟩), (.sliceSl 2 (.t 23) none (some (.t 26)))⟩, ⟨(some 28), (some ⟨20, false⟩), (.mv (.t 1))⟩, ⟨(some 29), (some ⟨20, false⟩), (.call (.c (.fn (.func 158) [])) [(.t 27), (.t 28)])⟩, ⟨(some 30), none, (.pick (.t 20) (.c (.t (.bool true))) (.t 29))⟩]) (.cond (.t 30) (.seq (.ops [⟨(some 31), none, (.load (some 18) (.t 2))⟩, ⟨none, none, (.store 18 (.t 4) (.t 31))⟩]) .ret) .skip)) (.seq (.seq (.ops [⟨(some 5), none, (.mv (.c (.t (.int .i64 0))))⟩]) (.block 0 (.loop (.seq (.seq (.ops [⟨(some 32), none, (.mv (.t 5))⟩, ⟨(some 33), none, (.fieldAddr 10 (.t 2))⟩, ⟨(some 34), none, (.load none (.t 33))⟩, ⟨(some 35), none, (.len false (.t 34))⟩, ⟨(some 36), none, (.bin .lss (.t 32) (.t 35))⟩]) (.cond (.t 36) .skip (.exit 0))) (.seq (.block 1 (.seq (.ops [⟨(some 39), none, (.fieldAddr 10 (.t 2))⟩, ⟨(some 40), none, (.load none (.t 39))⟩, ⟨(some 41), none, (.mv (.t 5))⟩, ⟨(some 42), none, (.indexAddr 1 (.t 40) (.t 41))⟩, ⟨(some 43), none, (.load none (.t 42))⟩, ⟨(some 44), none, (.mv (.t 1))⟩, ⟨(some 45), none, (.bin .eql (.t 43) (.t 44))⟩]) (.cond (.t 45) (.seq (.ops [⟨(some 46), none, (.load (some 18) (.t 2))⟩, ⟨none, none, (.store 18 (.t 4) (.t 46))⟩]) .ret) .skip))) (.ops [⟨(some 37), none, (.mv (.t 5))⟩, ⟨(some 38), none, (.bin .add (.t 37) (.c (.t (.int .i64 1))))⟩, ⟨(some 5), none, (.mv (.t 38))⟩])))))) (.seq (.ops [⟨(some 47), none, (.fieldAddr 10 (.t 2))⟩, ⟨(some 48), none, (.load none (.t 47))⟩, ⟨(some 49), none, (.mv (.t 1))⟩, ⟨(some 50), none, (.lit none 1 1 [(.t (.str []))] [⟨0, (.t 49)⟩])⟩, ⟨(some 51), none, (.append 1 16 (.t 48) (.t 50))⟩, ⟨(some 52), none, (.fieldAddr 10 (.t 2))⟩, ⟨none, none, (.store 1 (.t 52) (.t 51))⟩]) (.seq (.ops [⟨(some 53), none, (.load (some 18) (.t 2))⟩, ⟨none, none, (.store 18 (.t 4) (.t 53))⟩]) .ret)))))
theorem k_spec_l23Wish : comp Try.prog 54 (Try.f132.body.getD .skip) = some c_spec_l23Wish := by kernel_rfl

def c___impl_Recorder__known : C := (.seq (.ops [⟨(some 4), none, (.mv (.c (.t (.bool false))))⟩]) (.seq (.seq (.drawn [(.mk 0 false ⟨(some 7), none, (.mv (.t 0))⟩), (.mk 1 false ⟨(some 8), none, (.nilCheck (.t 7))⟩), (.mk 2 false ⟨(some 9), none, (.fieldAddr 6 (.t 8))⟩), (.mk 3 false ⟨(some 10), none, (.fieldAddr 2 (.t 9))⟩), (.mk 4 false ⟨(some 11), none, (.load none (.t 10))⟩), (.mk 5 false ⟨(some 12), none, (.mv (.t 0))⟩), (.mk 6 false ⟨(some 13), none, (.nilCheck (.t 12))⟩), (.mk 7 false ⟨(some 14), none, (.fieldAddr 6 (.t 13))⟩), (.mk 8 false ⟨(some 15), none, (.fieldAddr 1 (.t 14))⟩), (.mk 9 false ⟨(some 16), none, (.load none (.t 15))⟩), (.mk 10 false ⟨(some 17), none, (.sliceSl 2 (.t 11) none (some (.t 16)))⟩), (.mk 11 false ⟨(some 18), none, (.len false (.t 17))⟩), (.mk 12 false ⟨(some 19), none, (.mv (.c (.t (.int .i64 0))))⟩)]) (.block 0 (.loop (.seq (.ops [⟨(some 20), none, (.bin .lss (.t 19) (.t 18))⟩]) (.seq (.cond (.t 20) .skip (.exit 0)) (.seq (.block 1 (.seq (.ops [⟨(some 21), none, (.indexAddr 2 (.t 17) (.t 19))⟩, ⟨(some 22), none, (.load (some 2) (.t 21))⟩, ⟨(some 6), none, (.new [(.t (.int .i64 0)), (.t (.str []))])⟩, ⟨none, none, (.store 2 (.t 6) (.t 22))⟩]) (.seq (.ops [⟨(some 23), none, (.fieldAddr 1 (.t 6))⟩, ⟨(some 24), none, (.load none (.t 23))⟩, ⟨(some 25), none, (.mv (.t 1))⟩, ⟨(some 26), none, (.bin .eql (.t 24) (.t 25))⟩]) (.cond (.t 26) (.seq (.ops [⟨(some 4), none, (.mv (.c (.t (.bool true))))⟩]) .ret) .skip)))) (.ops [⟨(some 27), none, (.bin .add (.t 19) (.c (.t (.int .i64 1))))⟩, ⟨(some 19), none, (.mv (.t 27))⟩]))))))) (.seq (.ops [⟨(some 4), none, (.mv (.c (.t (.bool false))))⟩]) .ret)))
theorem k___impl_Recorder__known : comp Try.prog 28 (Try.f159.body.getD .skip) = some c___impl_Recorder__known := by kernel_rfl

def c___impl_Recorder__wish : C := (.seq (.ops [⟨(some 4), none, (.mv (.t 1))⟩, ⟨(some 5), none, (.len true (.t 4))⟩, ⟨(some 6), none, (.call (.c (.fn (.func 80) [])) [(.t 5), (.c (.t (.int .i64 1))), (.c (.t (.int .i64 160)))])⟩, ⟨(some 7), none, (.mv (.t 6))⟩, ⟨(some 8), (some ⟨7, true⟩), (.mv (.t 0))⟩, ⟨(some 9), (some ⟨7, true⟩), (.nilCheck (.t 8))⟩, ⟨(some 10), (some ⟨7, true⟩), (.fieldAddr 10 (.t 9))⟩, ⟨(some 11), (some ⟨7, true⟩), (.load none (.t 10))⟩, ⟨(some 12), (some ⟨7, true⟩), (.mv (.t 1))⟩, ⟨(some 13), (some ⟨7, true⟩), (.call (.c (.fn (.func 112) [])) [(.t 11), (.t 12)])⟩, ⟨(some 14), (some ⟨7, true⟩), (.un .not (.t 13))⟩, ⟨(some 15), none, (.pick (.t 7) (.t 14) (.c (.t (.bool false))))⟩, ⟨(some 16), none, (.mv (.t 15))⟩, ⟨(some 17), (some ⟨16, true⟩), (.mv (.t 0))⟩, ⟨(some 18), (some ⟨16, true⟩), (.nilCheck (.t 17))⟩, ⟨(some 19), (some ⟨16, true⟩), (.fieldAddr 10 (.t 18))⟩, ⟨(some 20), (some ⟨16, true⟩), (.load none (.t 19))⟩, ⟨(some 21), (some ⟨16, true⟩), (.len false (.t 20))⟩, ⟨(some 22), (some ⟨16, true⟩), (.bin .lss (.t 21) (.c (.t (.int .i64 20))))⟩, ⟨(some 23), none, (.pick (.t 16) (.t 22) (.c (.t (.bool false))))⟩, ⟨(some 24), none, (.mv (.t 23))⟩, ⟨(some 25), (some ⟨24, true⟩), (.mv (.t 0))⟩, ⟨(some 26), (some ⟨24, true⟩), (.mv (.t 1))⟩, ⟨(some 27), (some ⟨24, true⟩), (.call (.c (.fn (.func 159) [])) [(.t 25), (.t 26)])⟩, ⟨(some 28), (some ⟨24, true⟩), (.un .not (.t 27))⟩, ⟨(some 29), none, (.pick (.t 24) (.t 28) (.c (.t (.bool false))))⟩]) (.cond (.t 29) (.ops [⟨(some 30), none, (.mv (.t 0))⟩, ⟨(some 31), none, (.mv (.t 0))⟩, ⟨(some 32), none, (.nilCheck (.t 31))⟩, ⟨(some 33), none, (.fieldAddr 10 (.t 32))⟩, ⟨(some 34), none, (.load none (.t 33))⟩, ⟨(some 35), none, (.mv (.t 1))⟩, ⟨(some 36), none, (.lit none 1 1 [(.t (.str []))] [⟨0, (.t 35)⟩])⟩, ⟨(some 37), none, (.append 1 16 (.t 34) (.t 36))⟩, ⟨(some 38), none, (.nilCheck (.t 30))⟩, ⟨(some 39), none, (.fieldAddr 10 (.t 38))⟩, ⟨none, none, (.store 1 (.t 39) (.t 37))⟩]) .skip))
theorem k___impl_Recorder__wish : comp Try.prog 40 (Try.f133.body.getD .skip) = some c___impl_Recorder__wish := by kernel_rfl

def c_spec_RecWish : C := (.seq (.ops [⟨(some 2), none, (.box (.t 0))⟩, ⟨(some 4), none, (.new [(.t (.int .i64 0)), (.t (.int .i64 0)), (.t (.bool false)), (.t (.int .i64 0)), (.t (.int .i64 0)), .nils, (.t (.int .i64 0)), (.t (.int .i64 0)), .nils, .nils, .nils, (.t (.bool false)), (.t (.bool false)), (.t (.int .i64 0)), .nils, .nils, .nils, (.t (.int .i64 0))])⟩]) (.seq (.seq (.ops [⟨(some 5), none, (.load (some 18) (.t 2))⟩, ⟨(some 6), none, (.call (.c (.fn (.func 44) [])) [(.t 5)])⟩, ⟨(some 7), none, (.un .not (.t 6))⟩]) (.cond (.t 7) (.seq (.ops [⟨(some 8), none, (.build [(.t (.int .i64 0)), (.t (.int .i64 0)), (.t (.bool false)), (.t (.int .i64 0)), (.t (.int .i64 0)), .nils, (.t (.int .i64 0)), (.t (.int .i64 0)), .nils, .nils, .nils, (.t (.bool false)), (.t (.bool false)), (.t (.int .i64 0)), .nils, .nils, .nils, (.t (.int .i64 0))] [])⟩, ⟨none, none, (.store 18 (.t 4) (.t 8))⟩]) .ret) .skip)) (.seq (.seq (.ops [⟨(some 9), none, (.fieldAddr 2 (.t 2))⟩, ⟨(some 10), none, (.load none (.t 9))⟩, ⟨(some 11), none, (.un .not (.t 10))⟩]) (.cond (.t 11) (.seq (.ops [⟨(some 12), none, (.load (some 18) (.t 2))⟩, ⟨(some 13), none, (.call (.c (.fn (.func 131) [])) [(.t 12)])⟩, ⟨none, none, (.store 18 (.t 4) (.t 13))⟩]) .ret) .skip)) (.seq (.ops [⟨(some 14), none, (.load (some 18) (.t 2))⟩, ⟨(some 15), none, (.call (.c (.fn (.func 131) [])) [(.t 14)])⟩, ⟨(some 16), none, (.mv (.t 1))⟩, ⟨(some 17), none, (.call (.c (.fn (.func 132) [])) [(.t 15), (.t 16)])⟩, ⟨(some 18), none, (.call (.c (.fn (.func 131) [])) [(.t 17)])⟩, ⟨none, none, (.store 18 (.t 4) (.t 18))⟩]) .ret))))
theorem k_spec_RecWish : comp Try.prog 19 (Try.f69.body.getD .skip) = some c_spec_RecWish := by kernel_rfl

def c_impl_RecWish : C := (.seq (.ops [⟨(some 2), none, (.box (.t 0))⟩, ⟨(some 4), none, (.new [(.t (.int .i64 0)), (.t (.int .i64 0)), (.t (.bool false)), (.t (.int .i64 0)), (.t (.int .i64 0)), .nils, (.t (.int .i64 0)), (.t (.int .i64 0)), .nils, .nils, .nils, (.t (.bool false)), (.t (.bool false)), (.t (.int .i64 0)), .nils, .nils, .nils, (.t (.int .i64 0))])⟩]) (.seq (.seq (.ops [⟨(some 6), none, (.load (some 18) (.t 2))⟩, ⟨(some 7), none, (.call (.c (.fn (.func 46) [])) [(.t 6)])⟩, ⟨(some 8), none, (.un .not (.t 7))⟩]) (.cond (.t 8) (.seq (.ops [⟨(some 9), none, (.build [(.t (.int .i64 0)), (.t (.int .i64 0)), (.t (.bool false)), (.t (.int .i64 0)), (.t (.int .i64 0)), .nils, (.t (.int .i64 0)), (.t (.int .i64 0)), .nils, .nils, .nils, (.t (.bool false)), (.t (.bool false)), (.t (.int .i64 0)), .nils, .nils, .nils, (.t (.int .i64 0))] [])⟩, ⟨none, none, (.store 18 (.t 4) (.t 9))⟩]) .ret) .skip)) (.seq (.ops [⟨(some 10), none, (.load (some 18) (.t 2))⟩, ⟨(some 11), none, (.call (.c (.fn (.func 127) [])) [(.t 10)])⟩, ⟨(some 5), none, (.new [(.t (.int .i64 0)), (.t (.int .i64 0)), (.t (.bool false)), (.t (.int .i64 0)), (.t (.int .i64 0)), .nils, (.t (.int .i64 0)), (.t (.int .i64 0)), .nils, .nils, .nils, (.t (.bool false)), (.t (.bool false)), (.t (.int .i64 0)), .nils, .nils, .nils, (.t (.int .i64 0))])⟩, ⟨none, none, (.store 18 (.t 5) (.t 11))⟩]) (.seq (.seq (.ops [⟨(some 12), none, (.fieldAddr 2 (.t 5))⟩, ⟨(some 13), none, (.load none (.t 12))⟩]) (.cond (.t 13) (.ops [⟨(some 14), none, (.mv (.t 1))⟩, ⟨(some 15), none, (.call (.c (.fn (.func 133) [])) [(.t 5), (.t 14)])⟩]) .skip)) (.seq (.ops [⟨(some 16), none, (.load (some 18) (.t 5))⟩, ⟨none, none, (.store 18 (.t 4) (.t 16))⟩]) .ret)))))
theorem k_impl_RecWish : comp Try.prog 17 (Try.f70.body.getD .skip) = some c_impl_RecWish := by kernel_rfl

def known (r : Recorder) : List RecSlot := r.Disk.Slots.take r.Disk.Known.toNat
def wishC (r : Recorder) (w : List UInt8) : Bool := wi w.length 1 160 && decide (r.Wishes.length < 20) && (known r).all (noT w) && !r.Wishes.contains w
def wishR (r : Recorder) (w : List UInt8) : Recorder := if wishC r w = true then { r with Wishes := r.Wishes ++ [w] } else r
theorem valid_disk {r : Recorder} (h : validR r = true) : 0 ≤ r.Disk.Known ∧ r.Disk.Known ≤ r.Disk.Slots.length ∧ (∀ x ∈ known r, x.Ballot > 0) := by
  have h1 : diskOk r.Disk = true := by grind [validR]
  have h2 : wi r.Disk.Known 0 r.Disk.Slots.length = true := by grind [diskOk]
  have h3 : slotsOk r.Disk.Slots = true := by grind [diskOk]
  have h4 : r.Disk.Slots.zipIdx.all (diskP r.Disk) = true := by grind [diskOk]
  have h5 : 0 ≤ r.Disk.Known ∧ r.Disk.Known ≤ r.Disk.Slots.length := by
    simp only [wi, Bool.and_eq_true, decide_eq_true_eq] at h2
    exact h2
  refine ⟨h5.1, h5.2, fun x hx => ?_⟩
  obtain ⟨i, hi, rfl⟩ := List.getElem_of_mem hx
  simp only [known, List.length_take] at hi
  simp only [known, List.getElem_take]
  have h6 := List.all_eq_true.1 h4 (r.Disk.Slots[i], i) (by rw [List.mem_zipIdx_iff_getElem?]; simp [show i < r.Disk.Slots.length by omega])
  have h7 : slotOk r.Disk.Slots[i] = true := by
    have : r.Disk.Slots.all slotOk = true := by grind [slotsOk]
    exact List.all_eq_true.1 this _ (List.getElem_mem _)
  have h8 : (i : Int) < r.Disk.Known := by omega
  grind [diskP, slotOk, wi]
theorem noT_eq {r : Recorder} (h : validR r = true) (w : List UInt8) : (known r).all (noTB w) = (known r).all (noT w) := by
  have h1 := (valid_disk h).2.2
  generalize known r = l at h1
  induction l with
  | nil => rfl
  | cons x l ih =>
    simp only [List.all_cons]
    rw [ih fun y hy => h1 y (by simp [hy])]
    have := h1 x (by simp)
    congr 1
    simp [noTB, noT, this]
theorem slot_flat' (l : List RecSlot) : flat (l.map RecSlot.ts) := slot_flat l
theorem str_flat' (l : List (List UInt8)) : flat (l.map tStr) := str_flat l
theorem known_len {r : Recorder} (hr : r.Ok) : (known r).length ≤ 1048576 := by
  have := hr.Disk.Slots.1
  simp only [known, List.length_take]; omega
theorem not_mem_append {a b : List Nat} {x : Nat} (h : x ∉ a ++ b) : x ∉ a ∧ x ∉ b := by simpa using h

theorem spec_l23Wish (r : Recorder) (hr : r.Ok) (hv : validR r = true) (w : List UInt8) (hw : w.length ≤ 1048576) (s : Store) (us : List V) (is : List Nat) (o : OwnL s r.ts us is) (hnd : is.Nodup) :
    ACalls Try.prog 132 [.agg us, .t (.str w)] s fun rr s' => ∃ us', rr = .agg us' ∧ s.length ≤ s'.length ∧ Kb is s s' ∧ SeesL s' (wishR r w).ts us' := by
  have o0 := o
  obtain ⟨u5, u8, u9, u10, u14, u15, u16, i5, i8, i9, i10, i14, i15, i16, rfl, rfl, O5, O8, O9, O10, O14, O15, O16⟩ := own18 o
  refine acalls_of Try.func132 (by decide +kernel) (code := Try.f132.body.getD .skip) (n := 54) (c := c_spec_l23Wish) (rs := [(.cell 4 (some 18))]) rfl rfl k_spec_l23Wish (by kernel_rfl) (by simp) (fun hσ => ?_)
  obtain ⟨k0, k1, k2⟩ := valid_disk hv
  have n5 := O5.one
  have n8 := O8.one
  have n9 := O9.one
  have n10 := O10.one
  have n14 := O14.one
  have n15 := O15.one
  have n16 := O16.one
  have y1 := hr.Wishes.1
  have hs1 := (O10.fl (str_flat' r.Wishes)).len
  simp only [List.length_map, lenSl] at hs1
  have hh : True := trivial
  have kn : r.Disk.Known = ((r.Disk.Known.toNat : Nat) : Int) := by omega
  have kl : r.Disk.Known.toNat ≤ (r.Disk.Slots.map RecSlot.ts).length := by rw [List.length_map]; omega
  have F8 := (O8.fl (slot_flat' r.Disk.Slots)).kp (Kp.app s [.box [.t (.int .i64 r.Number), .t (.int .i64 r.Of), .t (.bool r.Up), .t (.int .i64 r.Safe.Promise), .t (.int .i64 r.Safe.Known), u5, .t (.int .i64 r.Disk.Promise), .t (.int .i64 r.Disk.Known), u8, u9, u10, .t (.bool r.Lead), .t (.bool r.Trying), .t (.int .i64 r.Ballot), u14, u15, u16, .t (.int .i64 r.Heard)], .box zeroVs])
  have F10 := (O10.fl (str_flat' r.Wishes)).kp (Kp.app s [.box [.t (.int .i64 r.Number), .t (.int .i64 r.Of), .t (.bool r.Up), .t (.int .i64 r.Safe.Promise), .t (.int .i64 r.Safe.Known), u5, .t (.int .i64 r.Disk.Promise), .t (.int .i64 r.Disk.Known), u8, u9, u10, .t (.bool r.Lead), .t (.bool r.Trying), .t (.int .i64 r.Ballot), u14, u15, u16, .t (.int .i64 r.Heard)], .box zeroVs])
  simp only [zeroVs] at F8 F10
  simp -implicitDefEqProofs only [c_spec_l23Wish, n5, n8, n9, n10, n14, n15, n16, hs1, S0, S1, S2, S3, S4, S5, S6, S7, S8, S9, S10, S11, S12, S13, S14, S15, opv, opvs, eget, env0, setD, lenStr, lenSl, isNilP, isNilS, putAt, if_true, if_false, reduceCtorEq, Nat.reduceLeDiff, Nat.reduceEqDiff, Nat.reduceSub, Nat.reduceMul, Nat.reduceAdd]
  repeat' (first
    | ((with_reducible refine cond_known (fun h => ?_) (fun h => ?_)) <;> (replace hh := And.intro h hh; clear h; simp -implicitDefEqProofs only [hh, cond_t, cond_f, n5, n8, n9, n10, n14, n15, n16, hs1, S0, S1, S2, S3, S4, S5, S6, S7, S8, S9, S10, S11, S12, S13, S14, S15, opv, opvs, eget, env0, setD, lenStr, lenSl, isNilP, isNilS, putAt, if_true, if_false, reduceCtorEq, Nat.reduceLeDiff, Nat.reduceEqDiff, Nat.reduceSub, Nat.reduceMul, Nat.reduceAdd]))
    | ((with_reducible refine slice_flat F8 kl rfl kn ?_); intro v fv; (try simp -implicitDefEqProofs only [hh, cond_t, cond_f, S0, S1, S2, S3, S4, S5, S6, S7, S8, S9, S10, S11, S12, S13, S14, S15, opv, opvs, eget, env0, setD, lenStr, lenSl, isNilP, isNilS, putAt, if_true, if_false, reduceCtorEq, Nat.reduceLeDiff, Nat.reduceEqDiff, Nat.reduceSub, Nat.reduceMul, Nat.reduceAdd]); refine call_bor (fun σ => spec_l23Has (known r) (known_len hr) w σ) rfl ⟨_, _, rfl, .inl ⟨_, rfl, by have := fv.sees ((slot_flat' r.Disk.Slots).take _) (by omega); rwa [← List.map_take] at this⟩, _, _, rfl, sees_one rfl, rfl⟩ ?_; simp -implicitDefEqProofs only [hh, cond_t, cond_f, n5, n8, n9, n10, n14, n15, n16, hs1, S0, S1, S2, S3, S4, S5, S6, S7, S8, S9, S10, S11, S12, S13, S14, S15, opv, opvs, eget, env0, setD, lenStr, lenSl, isNilP, isNilS, putAt, if_true, if_false, reduceCtorEq, Nat.reduceLeDiff, Nat.reduceEqDiff, Nat.reduceSub, Nat.reduceMul, Nat.reduceAdd])
    | ((with_reducible refine fin_keep (by simp) ?_); refine ⟨_, rfl, by simp, Kb.le (Kp.app _ _), ?_⟩; (try simp only [Known] at hh); (have hq := noT_eq hv w); (have hwr : wishR r w = r := by unfold wishR; rw [if_neg (by grind [wishC, wi])]); rw [hwr]; exact ((Kp.app _ _).ownL o0).sees))

  refine loop_p [5, 1, 2, 4] [1, 2, 4] (fun k : Nat => [(5, .t (.int .i64 (k : Nat)))]) (fun k => k ≤ r.Wishes.length ∧ (r.Wishes.take k).contains w = false) (fun k => r.Wishes.length - k) 0 (by simp) ⟨Nat.zero_le _, rfl⟩ rfl ?_
  rintro k ⟨hk, hc⟩
  simp -implicitDefEqProofs only [keep, n10, hs1, S0, S1, S2, S3, S4, S5, S6, S7, S8, S9, S10, S11, S12, S13, S14, S15, opv, opvs, eget, env0, setD, lenStr, lenSl, isNilP, isNilS, putAt, if_true, if_false, reduceCtorEq, Nat.reduceLeDiff, Nat.reduceEqDiff, Nat.reduceSub, Nat.reduceMul, Nat.reduceAdd]
  refine cond_split (fun h1 => ?_) (fun h1 => ?_)
  · obtain ⟨x, hx, hlt⟩ := at_of h1
    have hx' : (r.Wishes.map tStr)[k]? = some [.str x] := by rw [List.getElem?_map, hx]; rfl
    have more := i64_succ (show k < 4611686018427387904 by omega)
    simp -implicitDefEqProofs only [n10, hs1, S0, S1, S2, S3, S4, S5, S6, S7, S8, S9, S10, S11, S12, S13, S14, S15, opv, opvs, eget, env0, setD, lenStr, lenSl, isNilP, isNilS, putAt, if_true, if_false, reduceCtorEq, Nat.reduceLeDiff, Nat.reduceEqDiff, Nat.reduceSub, Nat.reduceMul, Nat.reduceAdd]
    refine index_flat F10 hx' ?_
    intro id i rs g1 g2
    simp -implicitDefEqProofs only [g1, g2, n10, hs1, S0, S1, S2, S3, S4, S5, S6, S7, S8, S9, S10, S11, S12, S13, S14, S15, opv, opvs, eget, env0, setD, lenStr, lenSl, isNilP, isNilS, putAt, if_true, if_false, reduceCtorEq, Nat.reduceLeDiff, Nat.reduceEqDiff, Nat.reduceSub, Nat.reduceMul, Nat.reduceAdd]
    refine cond_split (fun h2 => ?_) (fun h2 => ?_)
    · simp -implicitDefEqProofs only [n5, n8, n9, n10, n14, n15, n16, S0, S1, S2, S3, S4, S5, S6, S7, S8, S9, S10, S11, S12, S13, S14, S15, opv, opvs, eget, env0, setD, lenStr, lenSl, isNilP, isNilS, putAt, if_true, if_false, reduceCtorEq, Nat.reduceLeDiff, Nat.reduceEqDiff, Nat.reduceSub, Nat.reduceMul, Nat.reduceAdd]
      have hcon : r.Wishes.contains w = true := by
        rw [List.contains_iff_mem]
        have : x = w := by simpa using h2
        exact this ▸ mem_at hx
      have hwr : wishR r w = r := by unfold wishR; rw [if_neg (by grind [wishC])]
      refine fin_keep (by simp) ⟨_, rfl, by simp, Kb.le (Kp.app _ _), ?_⟩
      rw [hwr]
      exact ((Kp.app _ _).ownL o0).sees
    · simp -implicitDefEqProofs only [more, S0, S1, S2, S3, S4, S5, S6, S7, S8, S9, S10, S11, S12, S13, S14, S15, opv, opvs, eget, env0, setD, lenStr, lenSl, isNilP, isNilS, putAt, if_true, if_false, reduceCtorEq, Nat.reduceLeDiff, Nat.reduceEqDiff, Nat.reduceSub, Nat.reduceMul, Nat.reduceAdd]
      refine lk_p0 (k + 1) (by simp) (by simp) (by omega) ⟨by omega, take_has hx hc (by simpa using h2)⟩ rfl
  · have hkk := end_of h1 hk
    subst hkk
    rw [List.take_length] at hc
    have hwr : wishR r w = { r with Wishes := r.Wishes ++ [w] } := by
      unfold wishR
      have hq := noT_eq hv w
      simp only [Known] at hh
      rw [if_pos (by grind [wishC, wi])]
    have c0 : 0 < 1 := by omega
    have hrow : (([[V.t (.str w)]] : List (List V)).all fun r => r.all one) = true := rfl
    simp -implicitDefEqProofs only [n10, c0, S0, S1, S2, S3, S4, S5, S6, S7, S8, S9, S10, S11, S12, S13, S14, S15, opv, opvs, eget, env0, setD, lenStr, lenSl, isNilP, isNilS, putAt, if_true, if_false, reduceCtorEq, Nat.reduceLeDiff, Nat.reduceEqDiff, Nat.reduceSub, Nat.reduceMul, Nat.reduceAdd]
    refine lit_rows ?_
    simp -implicitDefEqProofs only [q_rows_r _ _ hrow, n10, c0, S0, S1, S2, S3, S4, S5, S6, S7, S8, S9, S10, S11, S12, S13, S14, S15, opv, opvs, eget, env0, setD, lenStr, lenSl, isNilP, isNilS, putAt, if_true, if_false, reduceCtorEq, Nat.reduceLeDiff, Nat.reduceEqDiff, Nat.reduceSub, Nat.reduceMul, Nat.reduceAdd]
    have W : ∀ x ∈ i10, x < s.length := O10.lt
    have hn10 : i10.Nodup := by
      have h1 := List.nodup_append.1 hnd
      have h2 := List.nodup_append.1 h1.2.1
      have h3 := List.nodup_append.1 h2.2.1
      exact (List.nodup_append.1 h3.2.1).1
    refine app_flat (r := [.str w]) ((Kp.app _ _).own O10) hn10 (by simp [scalar]) (by simp only [maxBy, List.length_map]; omega) (by simp only [List.length_map]; omega) ?_
    intro v' s' is' l1 l2 kb o' h'
    have e1 := kb.box (p := s.length) (by simp; rfl) (fun h => by have := W _ h; omega)
    have e2 := kb.box (p := s.length + 1) (by simp; rfl) (fun h => by have := W _ h; omega)
    simp only [List.length_append, List.length_cons, List.length_nil] at l1 l2
    have n10' := o'.one
    simp -implicitDefEqProofs only [e1, e2, one_cells n10', n10', n5, n8, n9, n14, n15, n16, List.getElem?_set_self (show s.length < s'.length by omega), List.getElem?_set_ne (show s.length ≠ s.length + 1 by omega), set2_self (l := s') (show s.length + 1 < s'.length by omega), S0, S1, S2, S3, S4, S5, S6, S7, S8, S9, S10, S11, S12, S13, S14, S15, opv, opvs, eget, env0, setD, lenStr, lenSl, isNilP, isNilS, putAt, if_true, if_false, reduceCtorEq, Nat.reduceLeDiff, Nat.reduceEqDiff, Nat.reduceSub, Nat.reduceMul, Nat.reduceAdd]
    have TR : ∀ {t : T} {u : V} {i : List Nat} {X Y : Go.Ab.Obj}, Own s t u i → (∀ x ∈ i, x ∉ i10) → Own ((s'.set s.length X).set (s.length + 1) Y) t u i := by
      intro t u i X Y h hd
      have hl := h.lt
      exact set_own (set_own (kb.own ((Kp.app _ _).own h) hd) (fun hm => by have := hl _ hm; omega)) (fun hm => by have := hl _ hm; omega)
    simp only [List.nodup_append, List.mem_append] at hnd
    refine fin_keep (by simp; omega) ⟨_, rfl, by simp; omega, fun j hj hj2 => ?_, ?_⟩
    · rw [List.getElem?_set_ne (by omega), List.getElem?_set_ne (by omega)]
      refine (kb j (by simp; omega) (fun h => hj2 (by simp [h]))).trans (List.getElem?_append_left hj)
    rw [hwr]
    refine (own_18 (r := { r with Wishes := r.Wishes ++ [w] }) (TR O5 ?_) (TR O8 ?_) (TR O9 ?_) (set_own (set_own (t := tStrs (r.Wishes ++ [w])) (by rw [tStrs, List.map_append]; exact o') ?_) ?_) (TR O14 ?_) (TR O15 ?_) (TR O16 ?_)).sees
    · grind
    · grind
    · grind
    · rcases h' with ⟨rfl, _⟩ | ⟨rfl, rfl, _⟩
      · exact fun hm => by have := W _ hm; omega
      · simp
    · rcases h' with ⟨rfl, _⟩ | ⟨rfl, rfl, _⟩
      · exact fun hm => by have := W _ hm; omega
      · simp
    · grind
    · grind
    · grind
theorem impl_known (r : Recorder) (hr : r.Ok) (hv : validR r = true) (w : List UInt8) (s : Store) (id : Nat) (u5 u8 u9 u10 u14 u15 u16 : V) (i8 : List Nat)
    (e : s[id]? = some (.box [.t (.int .i64 r.Number), .t (.int .i64 r.Of), .t (.bool r.Up), .t (.int .i64 r.Safe.Promise), .t (.int .i64 r.Safe.Known), u5, .t (.int .i64 r.Disk.Promise), .t (.int .i64 r.Disk.Known), u8, u9, u10, .t (.bool r.Lead), .t (.bool r.Trying), .t (.int .i64 r.Ballot), u14, u15, u16, .t (.int .i64 r.Heard)])) (O8 : Own s (tRecSlotS r.Disk.Slots) u8 i8) :
    ACalls Try.prog 159 [.ptr id 0, .t (.str w)] s fun rr s' => rr = .t (.bool (!((known r).all (noT w)))) ∧ s' = s := by
  refine acalls_of Try.func159 (by decide +kernel) (code := Try.f159.body.getD .skip) (n := 28) (c := c___impl_Recorder__known) (rs := [(.tmp 4)]) rfl rfl k___impl_Recorder__known (by kernel_rfl) (by simp) (fun hσ => ?_)
  obtain ⟨k0, k1, k2⟩ := valid_disk hv
  have n8 := O8.one
  have y1 := known_len hr
  have kn : r.Disk.Known = ((r.Disk.Known.toNat : Nat) : Int) := by omega
  have kl : r.Disk.Known.toNat ≤ (r.Disk.Slots.map RecSlot.ts).length := by rw [List.length_map]; omega
  have F8 := O8.fl (slot_flat' r.Disk.Slots)
  simp -implicitDefEqProofs only [c___impl_Recorder__known, e, n8, S0, S1, S2, S3, S4, S5, S6, S7, S8, S9, S10, S11, S12, S13, S14, S15, opv, opvs, eget, env0, setD, lenStr, lenSl, isNilP, isNilS, putAt, if_true, if_false, reduceCtorEq, Nat.reduceLeDiff, Nat.reduceEqDiff, Nat.reduceSub, Nat.reduceMul, Nat.reduceAdd]
  refine slice_flat F8 kl rfl kn ?_
  intro v fv
  have hs1 := fv.len
  have hk1 : ((r.Disk.Slots.map RecSlot.ts).take r.Disk.Known.toNat) = (known r).map RecSlot.ts := by simp [known]
  rw [hk1] at fv hs1
  simp only [List.length_map, lenSl] at hs1
  simp -implicitDefEqProofs only [hs1, S0, S1, S2, S3, S4, S5, S6, S7, S8, S9, S10, S11, S12, S13, S14, S15, opv, opvs, eget, env0, setD, lenStr, lenSl, isNilP, isNilS, putAt, if_true, if_false, reduceCtorEq, Nat.reduceLeDiff, Nat.reduceEqDiff, Nat.reduceSub, Nat.reduceMul, Nat.reduceAdd]
  refine loop_p [19, 1, 17, 18] [1, 17, 18] (fun k : Nat => [(19, .t (.int .i64 (k : Nat)))]) (fun k => k ≤ (known r).length ∧ ((known r).take k).all (noT w) = true) (fun k => (known r).length - k) 0 (by simp) ⟨Nat.zero_le _, rfl⟩ rfl ?_
  rintro k ⟨hk, hall⟩
  simp -implicitDefEqProofs only [keep, S0, S1, S2, S3, S4, S5, S6, S7, S8, S9, S10, S11, S12, S13, S14, S15, opv, opvs, eget, env0, setD, lenStr, lenSl, isNilP, isNilS, putAt, if_true, if_false, reduceCtorEq, Nat.reduceLeDiff, Nat.reduceEqDiff, Nat.reduceSub, Nat.reduceMul, Nat.reduceAdd]
  refine cond_split (fun h1 => ?_) (fun h1 => ?_)
  · obtain ⟨x, hx, hlt⟩ := at_of h1
    have hx' : ((known r).map RecSlot.ts)[k]? = some x.ts := by rw [List.getElem?_map, hx]; rfl
    have more := i64_succ (show k < 4611686018427387904 by omega)
    simp -implicitDefEqProofs only [S0, S1, S2, S3, S4, S5, S6, S7, S8, S9, S10, S11, S12, S13, S14, S15, opv, opvs, eget, env0, setD, lenStr, lenSl, isNilP, isNilS, putAt, if_true, if_false, reduceCtorEq, Nat.reduceLeDiff, Nat.reduceEqDiff, Nat.reduceSub, Nat.reduceMul, Nat.reduceAdd]
    refine index_flat fv hx' ?_
    intro id' i rs g1 g2
    simp -implicitDefEqProofs only [g1, g2, RecSlot.ts, S0, S1, S2, S3, S4, S5, S6, S7, S8, S9, S10, S11, S12, S13, S14, S15, opv, opvs, eget, env0, setD, lenStr, lenSl, isNilP, isNilS, putAt, if_true, if_false, reduceCtorEq, Nat.reduceLeDiff, Nat.reduceEqDiff, Nat.reduceSub, Nat.reduceMul, Nat.reduceAdd]
    refine cond_split (fun h2 => ?_) (fun h2 => ?_)
    · simp -implicitDefEqProofs only [S0, S1, S2, S3, S4, S5, S6, S7, S8, S9, S10, S11, S12, S13, S14, S15, opv, opvs, eget, env0, setD, lenStr, lenSl, isNilP, isNilS, putAt, if_true, if_false, reduceCtorEq, Nat.reduceLeDiff, Nat.reduceEqDiff, Nat.reduceSub, Nat.reduceMul, Nat.reduceAdd]
      refine ret_same rfl hσ rfl ⟨?_, rfl⟩
      have hno := all_not (p := noT w) hx (by simpa [noT] using h2)
      simp [mkRes, hno]
    · simp -implicitDefEqProofs only [more, S0, S1, S2, S3, S4, S5, S6, S7, S8, S9, S10, S11, S12, S13, S14, S15, opv, opvs, eget, env0, setD, lenStr, lenSl, isNilP, isNilS, putAt, if_true, if_false, reduceCtorEq, Nat.reduceLeDiff, Nat.reduceEqDiff, Nat.reduceSub, Nat.reduceMul, Nat.reduceAdd]
      refine lk_p (k + 1) (by simp) rfl hσ rfl (by omega) ⟨by omega, all_step hx hall (by simpa [noT] using h2)⟩ ?_ rfl
      have hlt := VRel.ltσ (x := ⟨fun _ => ⟨none, 0⟩, fun _ => False, s, default⟩)
      rcases fv with ⟨_, rfl | rfl⟩ | ⟨id2, g, off, rs2, rfl, q1, q2⟩
      · simp [keep, eget, ltE, V.lt]
      · simp [keep, eget, ltE, V.lt, V.ltss]
      · have := (List.getElem?_eq_some_iff.1 q1).1
        simp [keep, eget, ltE, V.lt, this]
  · have hkk := end_of h1 hk
    rw [hkk, List.take_length] at hall
    simp -implicitDefEqProofs only [S0, S1, S2, S3, S4, S5, S6, S7, S8, S9, S10, S11, S12, S13, S14, S15, opv, opvs, eget, env0, setD, lenStr, lenSl, isNilP, isNilS, putAt, if_true, if_false, reduceCtorEq, Nat.reduceLeDiff, Nat.reduceEqDiff, Nat.reduceSub, Nat.reduceMul, Nat.reduceAdd]
    exact ret_same0 rfl ⟨by simp [mkRes, hall], rfl⟩
theorem impl_wish (r : Recorder) (hr : r.Ok) (hv : validR r = true) (w : List UInt8) (hw : w.length ≤ 1048576) (s : Store) (id : Nat) (u5 u8 u9 u10 u14 u15 u16 : V) (i8 i10 : List Nat)
    (e : s[id]? = some (.box [.t (.int .i64 r.Number), .t (.int .i64 r.Of), .t (.bool r.Up), .t (.int .i64 r.Safe.Promise), .t (.int .i64 r.Safe.Known), u5, .t (.int .i64 r.Disk.Promise), .t (.int .i64 r.Disk.Known), u8, u9, u10, .t (.bool r.Lead), .t (.bool r.Trying), .t (.int .i64 r.Ballot), u14, u15, u16, .t (.int .i64 r.Heard)])) (O8 : Own s (tRecSlotS r.Disk.Slots) u8 i8) (O10 : Own s (tStrs r.Wishes) u10 i10) (hn10 : i10.Nodup) (hid : id ∉ i10) (n5 : one u5 = true) (n9 : one u9 = true) (n14 : one u14 = true) (n15 : one u15 = true) (n16 : one u16 = true) :
    ACalls Try.prog 133 [.ptr id 0, .t (.str w)] s fun rr s' => ∃ v is', s.length ≤ s'.length ∧ s'.length ≤ s.length + 1 ∧ s'[id]? = some (.box [.t (.int .i64 r.Number), .t (.int .i64 r.Of), .t (.bool r.Up), .t (.int .i64 r.Safe.Promise), .t (.int .i64 r.Safe.Known), u5, .t (.int .i64 r.Disk.Promise), .t (.int .i64 r.Disk.Known), u8, u9, v, .t (.bool r.Lead), .t (.bool r.Trying), .t (.int .i64 r.Ballot), u14, u15, u16, .t (.int .i64 r.Heard)]) ∧ Kb (id :: i10) s s' ∧ Own s' (tStrs (wishR r w).Wishes) v is' ∧ ((is' = i10 ∧ s'.length = s.length) ∨ (i10 = [] ∧ is' = [s.length] ∧ s'.length = s.length + 1)) := by
  refine acalls_of Try.func133 (by decide +kernel) (code := Try.f133.body.getD .skip) (n := 40) (c := c___impl_Recorder__wish) (rs := []) rfl rfl k___impl_Recorder__wish (by kernel_rfl) (by simp) (fun hσ => ?_)
  have n8 := O8.one
  have n10 := O10.one
  have y1 := hr.Wishes.1
  have hs1 := (O10.fl (str_flat' r.Wishes)).len
  simp only [List.length_map, lenSl] at hs1
  have hh : True := trivial
  have c0 : 0 < 1 := by omega
  have hid' := (List.getElem?_eq_some_iff.1 e).1
  have W : ∀ x ∈ i10, x < s.length := O10.lt
  have hrow : (([[V.t (.str w)]] : List (List V)).all fun r => r.all one) = true := rfl
  simp -implicitDefEqProofs only [c___impl_Recorder__wish, e, n10, hs1, c0, S0, S1, S2, S3, S4, S5, S6, S7, S8, S9, S10, S11, S12, S13, S14, S15, opv, opvs, eget, env0, setD, lenStr, lenSl, isNilP, isNilS, putAt, if_true, if_false, reduceCtorEq, Nat.reduceLeDiff, Nat.reduceEqDiff, Nat.reduceSub, Nat.reduceMul, Nat.reduceAdd]
  repeat' (first
    | ((with_reducible refine cond_known (fun h => ?_) (fun h => ?_)) <;> (replace hh := And.intro h hh; clear h; simp -implicitDefEqProofs only [hh, cond_t, cond_f, e, n10, hs1, c0, S0, S1, S2, S3, S4, S5, S6, S7, S8, S9, S10, S11, S12, S13, S14, S15, opv, opvs, eget, env0, setD, lenStr, lenSl, isNilP, isNilS, putAt, if_true, if_false, reduceCtorEq, Nat.reduceLeDiff, Nat.reduceEqDiff, Nat.reduceSub, Nat.reduceMul, Nat.reduceAdd]))
    | ((with_reducible refine call_pure (impl_within_rec _ _ _ _) ?_); simp -implicitDefEqProofs only [hh, cond_t, cond_f, e, n10, hs1, c0, S0, S1, S2, S3, S4, S5, S6, S7, S8, S9, S10, S11, S12, S13, S14, S15, opv, opvs, eget, env0, setD, lenStr, lenSl, isNilP, isNilS, putAt, if_true, if_false, reduceCtorEq, Nat.reduceLeDiff, Nat.reduceEqDiff, Nat.reduceSub, Nat.reduceMul, Nat.reduceAdd])
    | ((with_reducible refine call_pure (impl_known r hr hv w _ _ _ _ _ _ _ _ _ _ e O8) ?_); simp -implicitDefEqProofs only [hh, cond_t, cond_f, e, n10, hs1, c0, S0, S1, S2, S3, S4, S5, S6, S7, S8, S9, S10, S11, S12, S13, S14, S15, opv, opvs, eget, env0, setD, lenStr, lenSl, isNilP, isNilS, putAt, if_true, if_false, reduceCtorEq, Nat.reduceLeDiff, Nat.reduceEqDiff, Nat.reduceSub, Nat.reduceMul, Nat.reduceAdd])
    | ((refine call_bor (fun σ => slices_Contains r.Wishes y1 w σ) rfl ⟨_, _, rfl, .inl ⟨_, rfl, O10.sees⟩, _, _, rfl, sees_one rfl, rfl⟩ ?_); simp -implicitDefEqProofs only [hh, cond_t, cond_f, e, n10, hs1, c0, S0, S1, S2, S3, S4, S5, S6, S7, S8, S9, S10, S11, S12, S13, S14, S15, opv, opvs, eget, env0, setD, lenStr, lenSl, isNilP, isNilS, putAt, if_true, if_false, reduceCtorEq, Nat.reduceLeDiff, Nat.reduceEqDiff, Nat.reduceSub, Nat.reduceMul, Nat.reduceAdd])
    | ((with_reducible refine ret_same0 rfl ?_); (have hwr : wishR r w = r := by unfold wishR; (try simp only [Known] at hh); rw [if_neg (by grind [wishC, wi])]); rw [hwr]; exact ⟨u10, i10, Nat.le_refl _, by omega, e, fun _ _ _ => rfl, O10, .inl ⟨rfl, rfl⟩⟩))

  have hwr : wishR r w = { r with Wishes := r.Wishes ++ [w] } := by
    unfold wishR
    simp only [Known] at hh
    rw [if_pos (by grind [wishC, wi])]
  refine lit_rows ?_
  simp -implicitDefEqProofs only [q_rows_r _ _ hrow, n10, c0, S0, S1, S2, S3, S4, S5, S6, S7, S8, S9, S10, S11, S12, S13, S14, S15, opv, opvs, eget, env0, setD, lenStr, lenSl, isNilP, isNilS, putAt, if_true, if_false, reduceCtorEq, Nat.reduceLeDiff, Nat.reduceEqDiff, Nat.reduceSub, Nat.reduceMul, Nat.reduceAdd]
  refine app_flat (r := [.str w]) O10 hn10 (by simp [scalar]) (by simp only [maxBy, List.length_map]; omega) (by simp only [List.length_map]; omega) ?_
  intro v' s' is' l1 l2 kb o' h'
  have e1 := kb.box e hid
  have n10' := o'.one
  simp -implicitDefEqProofs only [e1, one_cells n10', n10', n5, n8, n9, n14, n15, n16, S0, S1, S2, S3, S4, S5, S6, S7, S8, S9, S10, S11, S12, S13, S14, S15, opv, opvs, eget, env0, setD, lenStr, lenSl, isNilP, isNilS, putAt, if_true, if_false, reduceCtorEq, Nat.reduceLeDiff, Nat.reduceEqDiff, Nat.reduceSub, Nat.reduceMul, Nat.reduceAdd]
  have hl : id < s'.length := (List.getElem?_eq_some_iff.1 e1).1
  refine fin_keep (by simpa using l1) ⟨v', is', by simpa using l1, by simpa using l2, List.getElem?_set_self hl, fun j hj hj2 => ?_, ?_, ?_⟩
  · simp only [List.mem_cons, not_or] at hj2
    rw [List.getElem?_set_ne (by omega)]
    exact kb j hj hj2.2
  · rw [hwr]
    refine set_own (t := tStrs (r.Wishes ++ [w])) (by rw [tStrs, List.map_append]; exact o') ?_
    rcases h' with ⟨rfl, _⟩ | ⟨rfl, rfl, _⟩
    · exact hid
    · simp; omega
  · rcases h' with ⟨rfl, h2⟩ | ⟨rfl, rfl, h2⟩
    · exact .inl ⟨rfl, by simpa using h2⟩
    · exact .inr ⟨rfl, rfl, by simpa using h2⟩
def wishRes (r : Recorder) (w : List UInt8) : Recorder := if validR r = true then (if r.Up = true then wishR r w else r) else zeroRec
def resT_RecWish (r : Recorder) (w : List UInt8) : List T := (wishRes r w).ts
theorem wishR_ok {r : Recorder} (hr : r.Ok) {w : List UInt8} (hw : w.length ≤ 1048576) : (wishR r w).Ok := by
  unfold wishR
  split
  · rename_i h
    have h20 : r.Wishes.length < 20 := by grind [wishC]
    have h0 := hr.Wishes
    refine { hr with Wishes := ⟨by simp; omega, fun s hs => ?_⟩ }
    rcases List.mem_append.1 hs with hs | hs
    · exact h0.2 s hs
    · simp at hs; subst hs; exact hw
  · exact hr
theorem specF_RecWish (r : Recorder) (hr : r.Ok) (w : List UInt8) (hw : w.length ≤ 1048576) (σ : Store) : ACalls Try.prog 69 [.agg r.vs, .t (.str w)] σ fun rr σ' => rr = .agg ((resT_RecWish r w).map .t) ∧ σ' = σ := by
  refine acalls_frzL ?_
  refine acalls_of Try.func69 (by decide +kernel) (code := Try.f69.body.getD .skip) (n := 19) (c := c_spec_RecWish) (rs := [(.cell 4 (some 18))]) rfl rfl k_spec_RecWish (by kernel_rfl) (by simp) (fun hσ => ?_)
  simp -implicitDefEqProofs only [c_spec_RecWish, Recorder.vs, S0, S1, S2, S3, S4, S5, S6, S7, S8, S9, S10, S11, S12, S13, S14, S15, opv, opvs, eget, env0, setD, lenStr, lenSl, isNilP, isNilS, putAt, if_true, if_false, reduceCtorEq, Nat.reduceLeDiff, Nat.reduceEqDiff, Nat.reduceSub, Nat.reduceMul, Nat.reduceAdd]
  refine call_pure (spec_RecValid r hr _) ?_
  simp -implicitDefEqProofs only [S0, S1, S2, S3, S4, S5, S6, S7, S8, S9, S10, S11, S12, S13, S14, S15, opv, opvs, eget, env0, setD, lenStr, lenSl, isNilP, isNilS, putAt, if_true, if_false, reduceCtorEq, Nat.reduceLeDiff, Nat.reduceEqDiff, Nat.reduceSub, Nat.reduceMul, Nat.reduceAdd]
  refine cond_split (fun h => ?_) (fun h => ?_)
  · have hv : validR r = false := by simpa using h
    simp -implicitDefEqProofs only [S0, S1, S2, S3, S4, S5, S6, S7, S8, S9, S10, S11, S12, S13, S14, S15, opv, opvs, eget, env0, setD, lenStr, lenSl, isNilP, isNilS, putAt, if_true, if_false, reduceCtorEq, Nat.reduceLeDiff, Nat.reduceEqDiff, Nat.reduceSub, Nat.reduceMul, Nat.reduceAdd]
    refine fin_keep (by simp) ⟨_, zeroVs, rfl, rfl, ?_⟩
    simp only [resT_RecWish, wishRes, hv, Bool.false_eq_true, if_false]
    exact (own_zeroRec _).seesF (by simp)
  · have hv : validR r = true := by simpa using h
    simp -implicitDefEqProofs only [S0, S1, S2, S3, S4, S5, S6, S7, S8, S9, S10, S11, S12, S13, S14, S15, opv, opvs, eget, env0, setD, lenStr, lenSl, isNilP, isNilS, putAt, if_true, if_false, reduceCtorEq, Nat.reduceLeDiff, Nat.reduceEqDiff, Nat.reduceSub, Nat.reduceMul, Nat.reduceAdd]
    refine cond_split (fun h => ?_) (fun h => ?_)
    · have hu : r.Up = false := by simpa using h
      simp -implicitDefEqProofs only [S0, S1, S2, S3, S4, S5, S6, S7, S8, S9, S10, S11, S12, S13, S14, S15, opv, opvs, eget, env0, setD, lenStr, lenSl, isNilP, isNilS, putAt, if_true, if_false, reduceCtorEq, Nat.reduceLeDiff, Nat.reduceEqDiff, Nat.reduceSub, Nat.reduceMul, Nat.reduceAdd]
      refine call_pure (spec_l22CopyF r hr _) ?_
      simp -implicitDefEqProofs only [Recorder.vs, S0, S1, S2, S3, S4, S5, S6, S7, S8, S9, S10, S11, S12, S13, S14, S15, opv, opvs, eget, env0, setD, lenStr, lenSl, isNilP, isNilS, putAt, if_true, if_false, reduceCtorEq, Nat.reduceLeDiff, Nat.reduceEqDiff, Nat.reduceSub, Nat.reduceMul, Nat.reduceAdd]
      refine fin_keep (by simp) ⟨_, r.ts.map .t, rfl, ?_, ?_⟩
      · simp only [mkRes, Recorder.ts, List.map_cons, List.map_nil]
      · simp only [resT_RecWish, wishRes, hv, hu, Bool.false_eq_true, if_true, if_false]
        exact seesFL_t _
    · have hu : r.Up = true := by simpa using h
      simp -implicitDefEqProofs only [S0, S1, S2, S3, S4, S5, S6, S7, S8, S9, S10, S11, S12, S13, S14, S15, opv, opvs, eget, env0, setD, lenStr, lenSl, isNilP, isNilS, putAt, if_true, if_false, reduceCtorEq, Nat.reduceLeDiff, Nat.reduceEqDiff, Nat.reduceSub, Nat.reduceMul, Nat.reduceAdd]
      refine call_newL (spec_l22Copy r hr _) ?_
      rintro us s is le k o w'
      have e6 := k (σ.length + 1) (by simp)
      simp -implicitDefEqProofs only [S0, S1, S2, S3, S4, S5, S6, S7, S8, S9, S10, S11, S12, S13, S14, S15, opv, opvs, eget, env0, setD, lenStr, lenSl, isNilP, isNilS, putAt, if_true, if_false, reduceCtorEq, Nat.reduceLeDiff, Nat.reduceEqDiff, Nat.reduceSub, Nat.reduceMul, Nat.reduceAdd] at e6
      have W' := w'
      have LE := le
      simp only [List.length_append, List.length_cons, List.length_nil] at le w'
      simp -implicitDefEqProofs only [S0, S1, S2, S3, S4, S5, S6, S7, S8, S9, S10, S11, S12, S13, S14, S15, opv, opvs, eget, env0, setD, lenStr, lenSl, isNilP, isNilS, putAt, if_true, if_false, reduceCtorEq, Nat.reduceLeDiff, Nat.reduceEqDiff, Nat.reduceSub, Nat.reduceMul, Nat.reduceAdd]
      refine call_by (by rw [List.append_nil]; exact spec_l23Wish r hr hv w hw s us is o w'.1) ?_
      rintro rr s1 ⟨us1, rfl, l1, k1, hs1⟩
      have kk := Kp.kb k LE k1 W'
      have e7 := k1.box e6 (fun h => by have := w'.2 _ h; omega)
      simp -implicitDefEqProofs only [S0, S1, S2, S3, S4, S5, S6, S7, S8, S9, S10, S11, S12, S13, S14, S15, opv, opvs, eget, env0, setD, lenStr, lenSl, isNilP, isNilS, putAt, if_true, if_false, reduceCtorEq, Nat.reduceLeDiff, Nat.reduceEqDiff, Nat.reduceSub, Nat.reduceMul, Nat.reduceAdd]
      refine call_newL (acalls_toL (spec_l22Copy (wishR r w) (wishR_ok hr hw)) ⟨_, _, rfl, .inr ⟨_, _, rfl, rfl, hs1⟩, rfl⟩) ?_
      rintro us2 s2 is2 le2 k2 o2 w2
      have e8 := k2.box e7
      have ln := (o2.len : us2.length = _)
      have ln2 : us2.length = 18 := by rw [ln]; rfl
      have tk := take_all ln2
      have on := o2.ones
      have hid := (List.getElem?_eq_some_iff.1 e8).1
      simp -implicitDefEqProofs only [e8, ln2, tk, on, List.append_nil, List.getElem?_set_self hid, S0, S1, S2, S3, S4, S5, S6, S7, S8, S9, S10, S11, S12, S13, S14, S15, opv, opvs, eget, env0, setD, lenStr, lenSl, isNilP, isNilS, putAt, if_true, if_false, reduceCtorEq, Nat.reduceLeDiff, Nat.reduceEqDiff, Nat.reduceSub, Nat.reduceMul, Nat.reduceAdd]
      refine fin_keep (by simp; omega) ⟨_, us2, kp_split ((Kp.trans (Kp.app _ _) (by simp) (Kp.trans kk (Nat.le_trans LE l1) k2)).set (by omega)) (by simp; omega), rfl, ?_⟩
      simp only [resT_RecWish, wishRes, hv, hu, if_true]
      refine OwnL.seesF (is := is2) (OwnL.frame o2 fun i hi => ?_) fun i hi => ?_
      · have := w2.2 i hi
        rw [List.getElem?_set_ne (by omega)]
      · have := w2.2 i hi
        omega
theorem implO_RecWish (r : Recorder) (hr : r.Ok) (w : List UInt8) (hw : w.length ≤ 1048576) (σ : Store) : ACalls Try.prog 70 [.agg r.vs, .t (.str w)] σ (ToLR (resT_RecWish r w) σ) := by
  refine acalls_of Try.func70 (by decide +kernel) (code := Try.f70.body.getD .skip) (n := 17) (c := c_impl_RecWish) (rs := [(.cell 4 (some 18))]) rfl rfl k_impl_RecWish (by kernel_rfl) (by simp) (fun hσ => ?_)
  simp -implicitDefEqProofs only [c_impl_RecWish, Recorder.vs, S0, S1, S2, S3, S4, S5, S6, S7, S8, S9, S10, S11, S12, S13, S14, S15, opv, opvs, eget, env0, setD, lenStr, lenSl, isNilP, isNilS, putAt, if_true, if_false, reduceCtorEq, Nat.reduceLeDiff, Nat.reduceEqDiff, Nat.reduceSub, Nat.reduceMul, Nat.reduceAdd]
  refine call_pure (impl_RecValid r hr _) ?_
  simp -implicitDefEqProofs only [S0, S1, S2, S3, S4, S5, S6, S7, S8, S9, S10, S11, S12, S13, S14, S15, opv, opvs, eget, env0, setD, lenStr, lenSl, isNilP, isNilS, putAt, if_true, if_false, reduceCtorEq, Nat.reduceLeDiff, Nat.reduceEqDiff, Nat.reduceSub, Nat.reduceMul, Nat.reduceAdd]
  refine cond_split (fun h => ?_) (fun h => ?_)
  · have hv : validR r = false := by simpa using h
    simp -implicitDefEqProofs only [S0, S1, S2, S3, S4, S5, S6, S7, S8, S9, S10, S11, S12, S13, S14, S15, opv, opvs, eget, env0, setD, lenStr, lenSl, isNilP, isNilS, putAt, if_true, if_false, reduceCtorEq, Nat.reduceLeDiff, Nat.reduceEqDiff, Nat.reduceSub, Nat.reduceMul, Nat.reduceAdd]
    refine fin_keep (by simp) ⟨zeroVs, _, [], rfl, rfl, ?_, Wi.nil⟩
    simp only [resT_RecWish, wishRes, hv, Bool.false_eq_true, if_false]
    exact own_zeroRec _
  · have hv : validR r = true := by simpa using h
    simp -implicitDefEqProofs only [S0, S1, S2, S3, S4, S5, S6, S7, S8, S9, S10, S11, S12, S13, S14, S15, opv, opvs, eget, env0, setD, lenStr, lenSl, isNilP, isNilS, putAt, if_true, if_false, reduceCtorEq, Nat.reduceLeDiff, Nat.reduceEqDiff, Nat.reduceSub, Nat.reduceMul, Nat.reduceAdd]
    refine call_newL (impl_clone_rec r hr _) ?_
    rintro us s is le k o w'
    have e6 := k (σ.length + 1) (by simp)
    simp -implicitDefEqProofs only [S0, S1, S2, S3, S4, S5, S6, S7, S8, S9, S10, S11, S12, S13, S14, S15, opv, opvs, eget, env0, setD, lenStr, lenSl, isNilP, isNilS, putAt, if_true, if_false, reduceCtorEq, Nat.reduceLeDiff, Nat.reduceEqDiff, Nat.reduceSub, Nat.reduceMul, Nat.reduceAdd] at e6
    simp only [List.length_append, List.length_cons, List.length_nil] at le w'
    obtain ⟨u5, u8, u9, u10, u14, u15, u16, i5, i8, i9, i10, i14, i15, i16, rfl, rfl, O5, O8, O9, O10, O14, O15, O16⟩ := own18 o
    have n5 := O5.one
    have n8 := O8.one
    have n9 := O9.one
    have n10 := O10.one
    have n14 := O14.one
    have n15 := O15.one
    have n16 := O16.one
    have e7 := fun l => (Kp.app s l).box e6
    have e8 : ∀ l Y, ((s ++ l).set (σ.length + 1) Y)[σ.length + 1]? = some Y := fun l Y => List.getElem?_set_self (by simp; omega)
    simp -implicitDefEqProofs only [n5, n8, n9, n10, n14, n15, n16, S0, S1, S2, S3, S4, S5, S6, S7, S8, S9, S10, S11, S12, S13, S14, S15, opv, opvs, eget, env0, setD, lenStr, lenSl, isNilP, isNilS, putAt, if_true, if_false, reduceCtorEq, Nat.reduceLeDiff, Nat.reduceEqDiff, Nat.reduceSub, Nat.reduceMul, Nat.reduceAdd]
    refine cond_split (fun h => ?_) (fun h => ?_)
    · have hu : r.Up = true := by simpa using h
      simp -implicitDefEqProofs only [S0, S1, S2, S3, S4, S5, S6, S7, S8, S9, S10, S11, S12, S13, S14, S15, opv, opvs, eget, env0, setD, lenStr, lenSl, isNilP, isNilS, putAt, if_true, if_false, reduceCtorEq, Nat.reduceLeDiff, Nat.reduceEqDiff, Nat.reduceSub, Nat.reduceMul, Nat.reduceAdd]
      have hn10 : i10.Nodup := by
        have h1 := List.nodup_append.1 w'.1
        have h2 := List.nodup_append.1 h1.2.1
        have h3 := List.nodup_append.1 h2.2.1
        exact (List.nodup_append.1 h3.2.1).1
      have L10 : ∀ x ∈ i10, σ.length + 2 ≤ x ∧ x < s.length := fun x hx => by have := w'.2 x (by simp [hx]); omega
      refine call_by (by rw [List.append_nil]; exact impl_wish r hr hv w hw _ _ u5 u8 u9 u10 u14 u15 u16 i8 i10 (by simp) ((Kp.app _ _).own O8) ((Kp.app _ _).own O10) hn10 (fun h => by have := L10 _ h; omega) n5 n9 n14 n15 n16) ?_
      rintro rr s2 ⟨v, is', l1, l2, e9, kb, o', h'⟩
      simp only [List.length_append, List.length_cons, List.length_nil] at l1 l2 h'
      have e10 := kb.box (e7 _) (fun h => by
        rcases List.mem_cons.1 h with h | h
        · omega
        · have := L10 _ h; omega)
      have nv := o'.one
      simp -implicitDefEqProofs only [e9, e10, nv, n5, n8, n9, n14, n15, n16, List.getElem?_set_self (show σ.length + 1 < s2.length by omega), S0, S1, S2, S3, S4, S5, S6, S7, S8, S9, S10, S11, S12, S13, S14, S15, opv, opvs, eget, env0, setD, lenStr, lenSl, isNilP, isNilS, putAt, if_true, if_false, reduceCtorEq, Nat.reduceLeDiff, Nat.reduceEqDiff, Nat.reduceSub, Nat.reduceMul, Nat.reduceAdd]
      have TR : ∀ {t : T} {u : V} {i : List Nat} {Y : Go.Ab.Obj}, Own s t u i → (∀ x ∈ i, x ∉ i10 ∧ σ.length + 2 ≤ x ∧ x < s.length) → Own (s2.set (σ.length + 1) Y) t u i := by
        intro t u i Y h hd
        refine set_own (kb.own ((Kp.app _ _).own h) fun x hx => ?_) (fun hm => by have := hd _ hm; omega)
        have := hd x hx
        simp only [List.mem_cons, not_or]
        exact ⟨by omega, this.1⟩
      have WN := w'.1
      have WB := w'.2
      simp only [List.nodup_append, List.mem_append] at WN WB
      refine fin_keep (by simp; omega) ⟨_, _, i5 ++ (i8 ++ (i9 ++ (is' ++ (i14 ++ (i15 ++ (i16 ++ [])))))), rfl, kp_split (fun j hj => ?_) (by simp; omega), ?_, ?_⟩
      · rw [List.getElem?_set_ne (by omega), kb j (by simp; omega) (fun h => by
          rcases List.mem_cons.1 h with h | h
          · omega
          · have := L10 _ h; omega), List.getElem?_append_left (by omega), k j (by simp; omega), List.getElem?_append_left hj]
      · have hres : wishRes r w = wishR r w := by unfold wishRes; rw [if_pos hv, if_pos hu]
        rw [resT_RecWish, hres]
        have hw1 : wishR r w = { r with Wishes := (wishR r w).Wishes } := by unfold wishR; split <;> rfl
        rw [hw1]
        refine own_18 (r := { r with Wishes := (wishR r w).Wishes }) (TR O5 ?_) (TR O8 ?_) (TR O9 ?_) (set_own o' ?_) (TR O14 ?_) (TR O15 ?_) (TR O16 ?_)
        · grind
        · grind
        · grind
        · rcases h' with ⟨rfl, _⟩ | ⟨rfl, rfl, _⟩
          · exact fun hm => by have := L10 _ hm; omega
          · simp; omega
        · grind
        · grind
        · grind
      · simp only [List.length_set]
        have w3 : Wi (i5 ++ (i8 ++ (i9 ++ (i10 ++ (i14 ++ (i15 ++ (i16 ++ []))))))) σ.length (s.length + 1) := w'.mono (by omega) (by omega)
        have e1 : ∀ X : List Nat, i5 ++ (i8 ++ (i9 ++ (X ++ (i14 ++ (i15 ++ (i16 ++ [])))))) = (i5 ++ (i8 ++ i9)) ++ (X ++ (i14 ++ (i15 ++ (i16 ++ [])))) := fun X => by simp
        rw [e1] at w3 ⊢
        refine wi_turn w3 (b := s.length + 1) (h'.imp (fun h => ⟨h.1, by omega⟩) (fun h => ⟨h.1, h.2.1⟩) : (is' = i10 ∧ s2.length = s.length + 1) ∨ (i10 = [] ∧ is' = [s.length + 1])) l1 (by omega) (fun h1 h2 => ?_)
        rcases h' with ⟨rfl, h3⟩ | ⟨_, _, h3⟩
        · rw [h1] at h2; simp at h2
        · omega
    · have hu : r.Up = false := by simpa using h
      simp -implicitDefEqProofs only [e7, e8, n5, n8, n9, n10, n14, n15, n16, S0, S1, S2, S3, S4, S5, S6, S7, S8, S9, S10, S11, S12, S13, S14, S15, opv, opvs, eget, env0, setD, lenStr, lenSl, isNilP, isNilS, putAt, if_true, if_false, reduceCtorEq, Nat.reduceLeDiff, Nat.reduceEqDiff, Nat.reduceSub, Nat.reduceMul, Nat.reduceAdd]
      refine fin_keep (by simp; omega) ⟨_, _, _, rfl, kp_split ((Kp.trans (Kp.app _ _) (by simp) (kp_app2 k)).set (by omega)) (by simp; omega), ?_, w'.mono (by omega) (by simp)⟩
      have hres : wishRes r w = r := by unfold wishRes; rw [if_pos hv, if_neg (by simp [hu])]
      rw [resT_RecWish, hres]
      refine OwnL.frame (σ := s) (own_18 O5 O8 O9 O10 O14 O15 O16) fun i hi => ?_
      have := w'.2 i hi
      rw [List.getElem?_set_ne (by omega), List.getElem?_append_left (by omega)]
theorem res_RecWish (r : Recorder) (h : T.isL shRecorder r.ts) (z : T.sizeL r.ts ≤ 1048576) (o : r.Ok) (w : List UInt8) (hw : w.length ≤ 1048576) : T.isL shRecorder (resT_RecWish r w) ∧ T.sizeL (resT_RecWish r w) ≤ 8388608 := by
  unfold resT_RecWish wishRes
  split
  · have hw1 : wishR r w = { r with Wishes := (wishR r w).Wishes } := by unfold wishR; split <;> rfl
    have hw2 : T.is (.sl 1 [.str]) (tStrs (wishR r w).Wishes) ∧ (tStrs (wishR r w).Wishes).size ≤ (tStrs r.Wishes).size + 1048577 := by
      obtain ⟨n0, n1, n2, n3, n4, n5, n6, n7, n8, n9, n10, n11, n12, n13, n14, n15, n16, n17, e, b0, b1, b3, b4, b5, b6, b7, b8, b9, b10, b13, b14, b15, b16, b17⟩ := isRecorder h
      unfold Recorder.ts at e
      cases e
      unfold wishR
      split
      · rename_i hc
        have h20 : r.Wishes.length < 20 := by grind [wishC]
        refine ⟨?_, ?_⟩
        · simp only [T.is, tStrs] at b10 ⊢
          obtain ⟨rows, e, l, hb⟩ := b10
          cases e
          refine ⟨_, rfl, by simp only [List.length_map, List.length_append, List.length_cons, List.length_nil, maxLen]; omega, fun x hx => ?_⟩
          rw [List.map_append, List.mem_append] at hx
          rcases hx with hx | hx
          · exact hb x hx
          · simp only [List.map_cons, List.map_nil, List.mem_singleton] at hx
            subst hx
            simp only [tStr, T.isL, T.is]
            exact ⟨_, _, rfl, ⟨_, rfl, by simp only [maxLen]; omega⟩, rfl⟩
        · rw [tStrs, tStrs, size_lst, size_lst, List.map_append, sizeR_app]
          simp only [List.map_cons, List.map_nil, sizeR_cons, sizeR_nil, tStr, sizeL_cons, sizeL_nil, size_str, List.length_append, List.length_map, List.length_cons, List.length_nil]
          omega
      · exact ⟨b10, by omega⟩
    split
    · rw [hw1]
      obtain ⟨n0, n1, n2, n3, n4, n5, n6, n7, n8, n9, n10, n11, n12, n13, n14, n15, n16, n17, e, b0, b1, b3, b4, b5, b6, b7, b8, b9, b10, b13, b14, b15, b16, b17⟩ := isRecorder h
      unfold Recorder.ts at e
      cases e
      refine ⟨mkRecorder b0 b1 b3 b4 b5 b6 b7 b8 b9 hw2.1 b13 b14 b15 b16 b17, ?_⟩
      unfold Recorder.ts at z
      rw [sizeRecorder] at z
      simp only [Recorder.ts]
      rw [sizeRecorder]
      have := hw2.2
      simp only [tStrs] at this
      omega
    · exact ⟨h, by omega⟩
  · exact ⟨is_zeroRec, by rw [len_zeroRec]; omega⟩
end Go.Proofs.Ytleilaipdhmgeaa.W

end
