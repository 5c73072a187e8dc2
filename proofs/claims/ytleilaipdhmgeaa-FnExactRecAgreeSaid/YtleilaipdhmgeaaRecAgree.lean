/- RecAgree of the reference and of the program. Conditions: none. -/
import Derived.Test.YtleilaipdhmgeaaRecMajor
import Derived.Test.YtleilaipdhmgeaaRecBook
import Derived.Test.YtleilaipdhmgeaaAb4
set_option linter.unusedSimpArgs false
set_option linter.unusedVariables false
set_option linter.defProp false
open Go Go.Ab
set_option maxHeartbeats 2000000
namespace Go.Proofs.Ytleilaipdhmgeaa.W
def c_spec_l27Fixed : C := (.seq (.ops [⟨(some 2), none, (.box (.t 0))⟩, ⟨(some 4), none, (.mv (.c (.t (.str []))))⟩, ⟨(some 5), none, (.mv (.c (.t (.bool false))))⟩]) (.seq (.seq (.ops [⟨(some 6), none, (.mv (.c (.t (.int .i64 0))))⟩]) (.block 0 (.loop (.seq (.seq (.ops [⟨(some 7), none, (.mv (.t 6))⟩, ⟨(some 8), none, (.fieldAddr 2 (.t 2))⟩, ⟨(some 9), none, (.load none (.t 8))⟩, ⟨(some 10), none, (.len false (.t 9))⟩, ⟨(some 11), none, (.bin .lss (.t 7) (.t 10))⟩]) (.cond (.t 11) .skip (.exit 0))) (.seq (.block 1 (.seq (.ops [⟨(some 14), none, (.fieldAddr 2 (.t 2))⟩, ⟨(some 15), none, (.load none (.t 14))⟩, ⟨(some 16), none, (.mv (.t 6))⟩, ⟨(some 17), none, (.indexAddr 2 (.t 15) (.t 16))⟩, ⟨(some 18), none, (.fieldAddr 0 (.t 17))⟩, ⟨(some 19), none, (.load none (.t 18))⟩, ⟨(some 20), none, (.mv (.t 1))⟩, ⟨(some 21), none, (.bin .eql (.t 19) (.t 20))⟩]) (.cond (.t 21) (.seq (.ops [⟨(some 22), none, (.fieldAddr 2 (.t 2))⟩, ⟨(some 23), none, (.load none (.t 22))⟩, ⟨(some 24), none, (.mv (.t 6))⟩, ⟨(some 25), none, (.indexAddr 2 (.t 23) (.t 24))⟩, ⟨(some 26), none, (.fieldAddr 1 (.t 25))⟩, ⟨(some 27), none, (.load none (.t 26))⟩, ⟨(some 4), none, (.mv (.t 27))⟩, ⟨(some 5), none, (.mv (.c (.t (.bool true))))⟩]) .ret) .skip))) (.ops [⟨(some 12), none, (.mv (.t 6))⟩, ⟨(some 13), none, (.bin .add (.t 12) (.c (.t (.int .i64 1))))⟩, ⟨(some 6), none, (.mv (.t 13))⟩])))))) (.seq (.ops [⟨(some 4), none, (.mv (.c (.t (.str []))))⟩, ⟨(some 5), none, (.mv (.c (.t (.bool false))))⟩]) .ret)))
theorem k_spec_l27Fixed : comp Try.prog 28 (Try.f129.body.getD .skip) = some c_spec_l27Fixed := by kernel_rfl

def c___impl_RecWorld__fixed : C := (.seq (.ops [⟨(some 4), none, (.mv (.c (.t (.str []))))⟩, ⟨(some 5), none, (.mv (.c (.t (.bool false))))⟩]) (.seq (.seq (.ops [⟨(some 8), none, (.mv (.t 0))⟩, ⟨(some 9), none, (.nilCheck (.t 8))⟩, ⟨(some 10), none, (.fieldAddr 2 (.t 9))⟩, ⟨(some 11), none, (.load none (.t 10))⟩, ⟨(some 12), none, (.len false (.t 11))⟩, ⟨(some 13), none, (.mv (.c (.t (.int .i64 0))))⟩]) (.block 0 (.loop (.seq (.ops [⟨(some 14), none, (.bin .lss (.t 13) (.t 12))⟩]) (.seq (.cond (.t 14) .skip (.exit 0)) (.seq (.block 1 (.seq (.ops [⟨(some 15), none, (.indexAddr 2 (.t 11) (.t 13))⟩, ⟨(some 16), none, (.load (some 2) (.t 15))⟩, ⟨(some 7), none, (.new [(.t (.int .i64 0)), (.t (.str []))])⟩, ⟨none, none, (.store 2 (.t 7) (.t 16))⟩]) (.seq (.ops [⟨(some 17), none, (.fieldAddr 0 (.t 7))⟩, ⟨(some 18), none, (.load none (.t 17))⟩, ⟨(some 19), none, (.mv (.t 1))⟩, ⟨(some 20), none, (.bin .eql (.t 18) (.t 19))⟩]) (.cond (.t 20) (.seq (.ops [⟨(some 21), none, (.fieldAddr 1 (.t 7))⟩, ⟨(some 22), none, (.load none (.t 21))⟩, ⟨(some 4), none, (.mv (.t 22))⟩, ⟨(some 5), none, (.mv (.c (.t (.bool true))))⟩]) .ret) .skip)))) (.ops [⟨(some 23), none, (.bin .add (.t 13) (.c (.t (.int .i64 1))))⟩, ⟨(some 13), none, (.mv (.t 23))⟩]))))))) (.seq (.ops [⟨(some 4), none, (.mv (.c (.t (.str []))))⟩, ⟨(some 5), none, (.mv (.c (.t (.bool false))))⟩]) .ret)))
theorem k___impl_RecWorld__fixed : comp Try.prog 24 (Try.f156.body.getD .skip) = some c___impl_RecWorld__fixed := by kernel_rfl

def c___impl_RecWorld__agree : C := (.seq (.ops [⟨(some 2), none, (.mv (.c (.t (.bool false))))⟩]) (.seq (.seq (.ops [⟨(some 13), none, (.mv (.t 0))⟩, ⟨(some 14), none, (.nilCheck (.t 13))⟩, ⟨(some 15), none, (.fieldAddr 0 (.t 14))⟩, ⟨(some 16), none, (.load none (.t 15))⟩, ⟨(some 17), none, (.len false (.t 16))⟩, ⟨(some 18), none, (.mv (.c (.t (.int .i64 0))))⟩]) (.block 0 (.loop (.seq (.ops [⟨(some 19), none, (.bin .lss (.t 18) (.t 17))⟩]) (.seq (.cond (.t 19) .skip (.exit 0)) (.seq (.block 1 (.seq (.ops [⟨(some 20), none, (.mv (.t 18))⟩, ⟨(some 3), none, (.mv (.t 20))⟩]) (.seq (.ops [⟨(some 21), none, (.mv (.t 0))⟩, ⟨(some 22), none, (.nilCheck (.t 21))⟩, ⟨(some 23), none, (.fieldAddr 0 (.t 22))⟩, ⟨(some 24), none, (.load none (.t 23))⟩, ⟨(some 25), none, (.mv (.t 3))⟩, ⟨(some 26), none, (.indexAddr 18 (.t 24) (.t 25))⟩, ⟨(some 27), none, (.call (.c (.fn (.func 119) [])) [(.t 26)])⟩, ⟨(some 28), none, (.len false (.t 27))⟩, ⟨(some 29), none, (.mv (.c (.t (.int .i64 0))))⟩]) (.block 2 (.loop (.seq (.ops [⟨(some 30), none, (.bin .lss (.t 29) (.t 28))⟩]) (.seq (.cond (.t 30) .skip (.exit 2)) (.seq (.block 3 (.seq (.ops [⟨(some 31), none, (.mv (.t 29))⟩, ⟨(some 32), none, (.indexAddr 1 (.t 27) (.t 29))⟩, ⟨(some 33), none, (.load none (.t 32))⟩, ⟨(some 4), none, (.mv (.t 31))⟩, ⟨(some 5), none, (.mv (.t 33))⟩]) (.seq (.ops [⟨(some 35), none, (.mv (.t 0))⟩, ⟨(some 36), none, (.mv (.t 4))⟩, ⟨(some 37), none, (.bin .add (.t 36) (.c (.t (.int .i64 1))))⟩, ⟨(some 38), none, (.call (.c (.fn (.func 156) [])) [(.t 35), (.t 37)])⟩, ⟨(some 34), none, (.mv (.t 38))⟩, ⟨(some 39), none, (.extract (.t 34) 0)⟩, ⟨(some 40), none, (.extract (.t 34) 1)⟩, ⟨(some 6), none, (.mv (.t 39))⟩, ⟨(some 7), none, (.mv (.t 40))⟩]) (.seq (.ops [⟨(some 41), none, (.mv (.t 7))⟩, ⟨(some 42), none, (.un .not (.t 41))⟩, ⟨(some 43), none, (.mv (.t 42))⟩, ⟨(some 44), (some ⟨43, false⟩), (.mv (.t 6))⟩, ⟨(some 45), (some ⟨43, false⟩), (.mv (.t 5))⟩, ⟨(some 46), (some ⟨43, false⟩), (.bin .neq (.t 44) (.t 45))⟩, ⟨(some 47), none, (.pick (.t 43) (.c (.t (.bool true))) (.t 46))⟩]) (.cond (.t 47) (.seq (.ops [⟨(some 2), none, (.mv (.c (.t (.bool false))))⟩]) .ret) .skip))))) (.ops [⟨(some 48), none, (.bin .add (.t 29) (.c (.t (.int .i64 1))))⟩, ⟨(some 29), none, (.mv (.t 48))⟩]))))))))) (.ops [⟨(some 49), none, (.bin .add (.t 18) (.c (.t (.int .i64 1))))⟩, ⟨(some 18), none, (.mv (.t 49))⟩]))))))) (.seq (.seq (.ops [⟨(some 8), none, (.mv (.c (.t (.int .i64 1))))⟩]) (.block 4 (.loop (.seq (.seq (.ops [⟨(some 50), none, (.mv (.t 8))⟩, ⟨(some 51), none, (.bin .leq (.t 50) (.c (.t (.int .i64 120))))⟩]) (.cond (.t 51) .skip (.exit 4))) (.seq (.block 5 (.seq (.ops [⟨(some 55), none, (.mv (.t 0))⟩, ⟨(some 56), none, (.mv (.t 8))⟩, ⟨(some 57), none, (.call (.c (.fn (.func 125) [])) [(.t 55), (.t 56)])⟩, ⟨(some 54), none, (.mv (.t 57))⟩, ⟨(some 58), none, (.extract (.t 54) 0)⟩, ⟨(some 59), none, (.extract (.t 54) 1)⟩, ⟨(some 9), none, (.mv (.t 58))⟩, ⟨(some 10), none, (.mv (.t 59))⟩]) (.seq (.ops [⟨(some 60), none, (.mv (.t 10))⟩]) (.cond (.t 60) (.seq (.ops [⟨(some 62), none, (.mv (.t 0))⟩, ⟨(some 63), none, (.mv (.t 8))⟩, ⟨(some 64), none, (.call (.c (.fn (.func 156) [])) [(.t 62), (.t 63)])⟩, ⟨(some 61), none, (.mv (.t 64))⟩, ⟨(some 65), none, (.extract (.t 61) 0)⟩, ⟨(some 66), none, (.extract (.t 61) 1)⟩, ⟨(some 11), none, (.mv (.t 65))⟩, ⟨(some 12), none, (.mv (.t 66))⟩]) (.seq (.ops [⟨(some 67), none, (.mv (.t 12))⟩, ⟨(some 68), none, (.un .not (.t 67))⟩, ⟨(some 69), none, (.mv (.t 68))⟩, ⟨(some 70), (some ⟨69, false⟩), (.mv (.t 11))⟩, ⟨(some 71), (some ⟨69, false⟩), (.mv (.t 9))⟩, ⟨(some 72), (some ⟨69, false⟩), (.bin .neq (.t 70) (.t 71))⟩, ⟨(some 73), none, (.pick (.t 69) (.c (.t (.bool true))) (.t 72))⟩]) (.cond (.t 73) (.seq (.ops [⟨(some 2), none, (.mv (.c (.t (.bool false))))⟩]) .ret) .skip))) .skip)))) (.ops [⟨(some 52), none, (.mv (.t 8))⟩, ⟨(some 53), none, (.bin .add (.t 52) (.c (.t (.int .i64 1))))⟩, ⟨(some 8), none, (.mv (.t 53))⟩])))))) (.seq (.ops [⟨(some 2), none, (.mv (.c (.t (.bool true))))⟩]) .ret))))
theorem k___impl_RecWorld__agree : comp Try.prog 74 (Try.f130.body.getD .skip) = some c___impl_RecWorld__agree := by kernel_rfl

def c_spec_RecAgree : C := (.seq (.ops [⟨(some 1), none, (.box (.t 0))⟩, ⟨(some 2), none, (.mv (.c (.t (.bool false))))⟩]) (.seq (.seq (.ops [⟨(some 13), none, (.load (some 3) (.t 1))⟩, ⟨(some 14), none, (.call (.c (.fn (.func 58) [])) [(.t 13)])⟩, ⟨(some 15), none, (.un .not (.t 14))⟩]) (.cond (.t 15) (.seq (.ops [⟨(some 2), none, (.mv (.c (.t (.bool false))))⟩]) .ret) .skip)) (.seq (.seq (.ops [⟨(some 3), none, (.mv (.c (.t (.int .i64 0))))⟩]) (.block 0 (.loop (.seq (.seq (.ops [⟨(some 16), none, (.mv (.t 3))⟩, ⟨(some 17), none, (.fieldAddr 0 (.t 1))⟩, ⟨(some 18), none, (.load none (.t 17))⟩, ⟨(some 19), none, (.len false (.t 18))⟩, ⟨(some 20), none, (.bin .lss (.t 16) (.t 19))⟩]) (.cond (.t 20) .skip (.exit 0))) (.seq (.block 1 (.seq (.ops [⟨(some 23), none, (.fieldAddr 0 (.t 1))⟩, ⟨(some 24), none, (.load none (.t 23))⟩, ⟨(some 25), none, (.mv (.t 3))⟩, ⟨(some 26), none, (.indexAddr 18 (.t 24) (.t 25))⟩, ⟨(some 27), none, (.load (some 18) (.t 26))⟩, ⟨(some 28), none, (.call (.c (.fn (.func 52) [])) [(.t 27)])⟩, ⟨(some 4), none, (.mv (.t 28))⟩]) (.seq (.ops [⟨(some 5), none, (.mv (.c (.t (.int .i64 0))))⟩]) (.block 2 (.loop (.seq (.seq (.ops [⟨(some 29), none, (.mv (.t 5))⟩, ⟨(some 30), none, (.mv (.t 4))⟩, ⟨(some 31), none, (.len false (.t 30))⟩, ⟨(some 32), none, (.bin .lss (.t 29) (.t 31))⟩]) (.cond (.t 32) .skip (.exit 2))) (.seq (.block 3 (.seq (.ops [⟨(some 36), none, (.load (some 3) (.t 1))⟩, ⟨(some 37), none, (.mv (.t 5))⟩, ⟨(some 38), none, (.bin .add (.t 37) (.c (.t (.int .i64 1))))⟩, ⟨(some 39), none, (.call (.c (.fn (.func 129) [])) [(.t 36), (.t 38)])⟩, ⟨(some 35), none, (.mv (.t 39))⟩, ⟨(some 40), none, (.extract (.t 35) 0)⟩, ⟨(some 41), none, (.extract (.t 35) 1)⟩, ⟨(some 6), none, (.mv (.t 40))⟩, ⟨(some 7), none, (.mv (.t 41))⟩]) (.seq (.ops [⟨(some 42), none, (.mv (.t 7))⟩, ⟨(some 43), none, (.un .not (.t 42))⟩, ⟨(some 44), none, (.mv (.t 43))⟩, ⟨(some 45), (some ⟨44, false⟩), (.mv (.t 6))⟩, ⟨(some 46), (some ⟨44, false⟩), (.mv (.t 4))⟩, ⟨(some 47), (some ⟨44, false⟩), (.mv (.t 5))⟩, ⟨(some 48), (some ⟨44, false⟩), (.indexAddr 1 (.t 46) (.t 47))⟩, ⟨(some 49), (some ⟨44, false⟩), (.load none (.t 48))⟩, ⟨(some 50), (some ⟨44, false⟩), (.bin .neq (.t 45) (.t 49))⟩, ⟨(some 51), none, (.pick (.t 44) (.c (.t (.bool true))) (.t 50))⟩]) (.cond (.t 51) (.seq (.ops [⟨(some 2), none, (.mv (.c (.t (.bool false))))⟩]) .ret) .skip)))) (.ops [⟨(some 33), none, (.mv (.t 5))⟩, ⟨(some 34), none, (.bin .add (.t 33) (.c (.t (.int .i64 1))))⟩, ⟨(some 5), none, (.mv (.t 34))⟩])))))))) (.ops [⟨(some 21), none, (.mv (.t 3))⟩, ⟨(some 22), none, (.bin .add (.t 21) (.c (.t (.int .i64 1))))⟩, ⟨(some 3), none, (.mv (.t 22))⟩])))))) (.seq (.seq (.ops [⟨(some 8), none, (.mv (.c (.t (.int .i64 1))))⟩]) (.block 4 (.loop (.seq (.seq (.ops [⟨(some 52), none, (.mv (.t 8))⟩, ⟨(some 53), none, (.bin .leq (.t 52) (.c (.t (.int .i64 120))))⟩]) (.cond (.t 53) .skip (.exit 4))) (.seq (.block 5 (.seq (.ops [⟨(some 57), none, (.load (some 3) (.t 1))⟩, ⟨(some 58), none, (.mv (.t 8))⟩, ⟨(some 59), none, (.call (.c (.fn (.func 124) [])) [(.t 57), (.t 58)])⟩, ⟨(some 56), none, (.mv (.t 59))⟩, ⟨(some 60), none, (.extract (.t 56) 0)⟩, ⟨(some 61), none, (.extract (.t 56) 1)⟩, ⟨(some 9), none, (.mv (.t 60))⟩, ⟨(some 10), none, (.mv (.t 61))⟩]) (.seq (.ops [⟨(some 63), none, (.load (some 3) (.t 1))⟩, ⟨(some 64), none, (.mv (.t 8))⟩, ⟨(some 65), none, (.call (.c (.fn (.func 129) [])) [(.t 63), (.t 64)])⟩, ⟨(some 62), none, (.mv (.t 65))⟩, ⟨(some 66), none, (.extract (.t 62) 0)⟩, ⟨(some 67), none, (.extract (.t 62) 1)⟩, ⟨(some 11), none, (.mv (.t 66))⟩, ⟨(some 12), none, (.mv (.t 67))⟩]) (.seq (.ops [⟨(some 68), none, (.mv (.t 10))⟩, ⟨(some 69), none, (.mv (.t 68))⟩, ⟨(some 70), (some ⟨69, true⟩), (.mv (.t 12))⟩, ⟨(some 71), (some ⟨69, true⟩), (.un .not (.t 70))⟩, ⟨(some 72), (some ⟨69, true⟩), (.mv (.t 71))⟩, ⟨(some 73), (some ⟨72, false⟩), (.mv (.t 11))⟩, ⟨(some 74), (some ⟨72, false⟩), (.mv (.t 9))⟩, ⟨(some 75), (some ⟨72, false⟩), (.bin .neq (.t 73) (.t 74))⟩, ⟨(some 76), (some ⟨69, true⟩), (.pick (.t 72) (.c (.t (.bool true))) (.t 75))⟩, ⟨(some 77), none, (.pick (.t 69) (.t 76) (.c (.t (.bool false))))⟩]) (.cond (.t 77) (.seq (.ops [⟨(some 2), none, (.mv (.c (.t (.bool false))))⟩]) .ret) .skip))))) (.ops [⟨(some 54), none, (.mv (.t 8))⟩, ⟨(some 55), none, (.bin .add (.t 54) (.c (.t (.int .i64 1))))⟩, ⟨(some 8), none, (.mv (.t 55))⟩])))))) (.seq (.ops [⟨(some 2), none, (.mv (.c (.t (.bool true))))⟩]) .ret)))))
theorem k_spec_RecAgree : comp Try.prog 78 (Try.f65.body.getD .skip) = some c_spec_RecAgree := by kernel_rfl

def c_impl_RecAgree : C := (.seq (.ops [⟨(some 1), none, (.box (.t 0))⟩, ⟨(some 2), none, (.mv (.c (.t (.bool false))))⟩]) (.seq (.ops [⟨(some 3), none, (.load (some 3) (.t 1))⟩, ⟨(some 4), none, (.call (.c (.fn (.func 60) [])) [(.t 3)])⟩, ⟨(some 5), none, (.mv (.t 4))⟩, ⟨(some 6), (some ⟨5, true⟩), (.call (.c (.fn (.func 130) [])) [(.t 1)])⟩, ⟨(some 7), none, (.pick (.t 5) (.t 6) (.c (.t (.bool false))))⟩, ⟨(some 2), none, (.mv (.t 7))⟩]) .ret))
theorem k_impl_RecAgree : comp Try.prog 8 (Try.f66.body.getD .skip) = some c_impl_RecAgree := by kernel_rfl

def fixOf (i : Int) : List RecFix → List UInt8 × Bool
  | [] => ([], false)
  | x :: l => if x.Index = i then (x.Text, true) else fixOf i l
def bookP (w : RecWorld) (x : List UInt8 × Nat) : Bool := (fixOf ((x.2 + 1 : Nat) : Int) w.Fixed).2 && ((fixOf ((x.2 + 1 : Nat) : Int) w.Fixed).1 == x.1)
def booksP (w : RecWorld) (r : Recorder) : Bool := (bookR r).zipIdx.all (bookP w)
def majP (w : RecWorld) (k : Nat) : Bool := !((majR w ((k + 1 : Nat) : Int)).2 && (!(fixOf ((k + 1 : Nat) : Int) w.Fixed).2 || ((fixOf ((k + 1 : Nat) : Int) w.Fixed).1 != (majR w ((k + 1 : Nat) : Int)).1)))
def agreeB (w : RecWorld) : Bool := w.Recorders.all (booksP w) && (List.range 120).all (majP w)

theorem impl_book_pv (r : Recorder) (hr : r.Ok) (hk0 : 0 ≤ r.Disk.Known) (hk1 : r.Disk.Known ≤ r.Disk.Slots.length) (σ : Store) :
    ACalls Try.prog 119 [.pv r.ts] σ (ToR (tStrs (textsOf (r.Disk.Slots.take r.Disk.Known.toNat))) σ) := by
  refine acalls_of Try.func119 (by decide +kernel) (code := Try.f119.body.getD .skip) (n := 29) (c := c___impl_Recorder__book) (rs := [(.tmp 2)]) rfl rfl k___impl_Recorder__book (by kernel_rfl) (by simp) (fun hσ => ?_)
  have y1 := hr.Disk.Slots.1
  have hle : r.Disk.Known.toNat ≤ r.Disk.Slots.length := by omega
  have htk : (r.Disk.Slots.take r.Disk.Known.toNat).length = r.Disk.Known.toNat := by rw [List.length_take]; omega
  simp -implicitDefEqProofs only [c___impl_Recorder__book, Recorder.ts, hk0, hle, List.length_map, List.drop_zero, map_take_l, htk, Nat.zero_le, S0, S1, S2, S3, S4, S5, S6, S7, S8, S9, S10, S11, S12, S13, S14, S15, opv, opvs, eget, env0, setD, lenStr, lenSl, isNilP, isNilS, putAt, if_true, if_false, reduceCtorEq, Nat.reduceLeDiff, Nat.reduceEqDiff, Nat.reduceSub, Nat.reduceMul, Nat.reduceAdd]
  refine loop_g [3, 18, 16, 17] [16, 17] (fun x : Nat × Go.Ab.Obj × Store => [(3, bv σ x.1), (18, .t (.int .i64 (x.1 : Nat)))]) (fun x => bs σ r.Disk.Slots x.2.1 x.2.2 x.1) (fun x => x.1 ≤ r.Disk.Known.toNat) (fun x => r.Disk.Known.toNat - x.1) (0, .slc 0 [], []) (Nat.le_refl _) (Nat.zero_le _) rfl rfl ?_
  rintro ⟨k, o, g⟩ hk
  simp only at hk
  have bl : σ.length ≤ (bs σ r.Disk.Slots o g k).length := by cases k <;> simp [bs]
  simp -implicitDefEqProofs only [keep, S0, S1, S2, S3, S4, S5, S6, S7, S8, S9, S10, S11, S12, S13, S14, S15, opv, opvs, eget, env0, setD, lenStr, lenSl, isNilP, isNilS, putAt, if_true, if_false, reduceCtorEq, Nat.reduceLeDiff, Nat.reduceEqDiff, Nat.reduceSub, Nat.reduceMul, Nat.reduceAdd]
  refine cond_split (fun h1 => ?_) (fun h1 => ?_)
  · have hlt : k < r.Disk.Known.toNat := by have := of_decide_eq_true h1; omega
    have hx : r.Disk.Slots[k]? = some (r.Disk.Slots[k]'(by omega)) := by simp [show k < r.Disk.Slots.length by omega]
    generalize r.Disk.Slots[k]'(by omega) = x at hx
    have hx2 : (r.Disk.Slots.take r.Disk.Known.toNat)[k]? = some x := by rw [List.getElem?_take, if_pos hlt]; exact hx
    have c1 : 0 < 1 := by omega
    have hrow : ((([[V.t (T.str x.Text)]] : List (List V)).all fun r => r.all one) = true) := rfl
    have more := i64_succ (show k < 4611686018427387904 by omega)
    rcases k with _ | k
    · have b1 : 1 * 16 ≤ maxBy := by simp only [maxBy]; omega
      have b1' : 16 ≤ maxBy := by simp only [maxBy]; omega
      have b3 : 1 ≤ 9223372036854775807 := by omega
      simp -implicitDefEqProofs only [bv, bs, hx2, nat_nn, c1, List.getElem?_map, Option.map_some, RecSlot.ts, more, S0, S1, S2, S3, S4, S5, S6, S7, S8, S9, S10, S11, S12, S13, S14, S15, opv, opvs, eget, env0, setD, lenStr, lenSl, isNilP, isNilS, putAt, if_true, if_false, reduceCtorEq, Nat.reduceLeDiff, Nat.reduceEqDiff, Nat.reduceSub, Nat.reduceMul, Nat.reduceAdd]
      refine lit_rows ?_
      simp -implicitDefEqProofs only [q_rows_r _ _ hrow, b1, b1', b3, more, S0, S1, S2, S3, S4, S5, S6, S7, S8, S9, S10, S11, S12, S13, S14, S15, opv, opvs, eget, env0, setD, lenStr, lenSl, isNilP, isNilS, putAt, if_true, if_false, reduceCtorEq, Nat.reduceLeDiff, Nat.reduceEqDiff, Nat.reduceSub, Nat.reduceMul, Nat.reduceAdd]
      exact lk_g (1, .box [.t (.int .i64 x.Ballot), .t (.str x.Text)], []) (by simp only; omega) (by simp only; omega) (by simp) (by simp only [bs, texts_step hx]; simp [strRows, textsOf]) rfl
    · have hlen : (strRows (textsOf (r.Disk.Slots.take (k + 1)))).length = k + 1 := by simp [strRows, textsOf]; omega
      have b1 : (k + 1 + 1) * 16 ≤ maxBy := by simp only [maxBy]; omega
      have b1' : (k + 2) * 16 ≤ maxBy := by simp only [maxBy]; omega
      have b2 : k ≤ 9223372036854775805 := by omega
      simp -implicitDefEqProofs only [bv, bs, hx2, nat_nn, c1, List.getElem?_map, Option.map_some, RecSlot.ts, more, S0, S1, S2, S3, S4, S5, S6, S7, S8, S9, S10, S11, S12, S13, S14, S15, opv, opvs, eget, env0, setD, lenStr, lenSl, isNilP, isNilS, putAt, if_true, if_false, reduceCtorEq, Nat.reduceLeDiff, Nat.reduceEqDiff, Nat.reduceSub, Nat.reduceMul, Nat.reduceAdd]
      refine lit_rows ?_
      simp -implicitDefEqProofs only [q_rows_r _ _ hrow, hlen, b1, b1', b2, more, S0, S1, S2, S3, S4, S5, S6, S7, S8, S9, S10, S11, S12, S13, S14, S15, opv, opvs, eget, env0, setD, lenStr, lenSl, isNilP, isNilS, putAt, if_true, if_false, reduceCtorEq, Nat.reduceLeDiff, Nat.reduceEqDiff, Nat.reduceSub, Nat.reduceMul, Nat.reduceAdd]
      exact lk_g (k + 2, o, g ++ [.box [.t (.int .i64 x.Ballot), .t (.str x.Text)]]) (by simp only; omega) (by simp only; omega) (by simp) (by simp only [bs, texts_step hx]) rfl
  · have hkk : k = r.Disk.Known.toNat := by
      have := of_decide_eq_false h1
      omega
    simp -implicitDefEqProofs only [S0, S1, S2, S3, S4, S5, S6, S7, S8, S9, S10, S11, S12, S13, S14, S15, opv, opvs, eget, env0, setD, lenStr, lenSl, isNilP, isNilS, putAt, if_true, if_false, reduceCtorEq, Nat.reduceLeDiff, Nat.reduceEqDiff, Nat.reduceSub, Nat.reduceMul, Nat.reduceAdd]
    rw [← hkk]
    rcases k with _ | k
    · refine fin_keep (by simp [bs]) ⟨[], [], by simp [bs], ?_, Wi.nil⟩
      simp [mkRes, bv, textsOf, tStrs, Own]
    · refine fin_keep (by simp [bs]) ⟨_, [σ.length + 1], rfl, ?_, ?_⟩
      · have hl : (textsOf (r.Disk.Slots.take (k + 1))).length = k + 1 := by simp [textsOf]; omega
        have := own_strs (σ := bs σ r.Disk.Slots o g (k + 1)) (id := σ.length + 1) (l := textsOf (r.Disk.Slots.take (k + 1))) (by simp [bs])
        rw [hl] at this
        exact this
      · exact Wi.cons (Wi.nil (a := σ.length + 2)) (by omega) (by omega) (by simp [bs])


theorem spec_l27Fixed (w : RecWorld) (hw : w.Ok) (index : Int) (σ : Store) : ACalls Try.prog 129 [.agg w.vs, .t (.int .i64 index)] σ fun rr σ' => rr = majV (fixOf index w.Fixed) ∧ σ' = σ := by
  refine acalls_of Try.func129 (by decide +kernel) (code := Try.f129.body.getD .skip) (n := 28) (c := c_spec_l27Fixed) (rs := [(.tmp 4), (.tmp 5)]) rfl rfl k_spec_l27Fixed (by kernel_rfl) (by simp) (fun hσ => ?_)
  have y1 := hw.Fixed.1
  have fin : ∀ {u : List V} {τ : Store}, mkRes u = majV (fixOf index w.Fixed) → retV σ.length (fun rr σ' => rr = majV (fixOf index w.Fixed) ∧ σ' = σ) (σ ++ τ) (some u) := fun h => ret_same rfl hσ (by rw [h]; rfl) ⟨h, rfl⟩
  have fin0 : ∀ {u : List V}, mkRes u = majV (fixOf index w.Fixed) → retV σ.length (fun rr σ' => rr = majV (fixOf index w.Fixed) ∧ σ' = σ) σ (some u) := fun h => ret_same0 rfl ⟨h, rfl⟩
  simp -implicitDefEqProofs only [c_spec_l27Fixed, RecWorld.vs, List.length_map, S0, S1, S2, S3, S4, S5, S6, S7, S8, S9, S10, S11, S12, S13, S14, S15, opv, opvs, eget, env0, setD, lenStr, lenSl, isNilP, isNilS, putAt, if_true, if_false, reduceCtorEq, Nat.reduceLeDiff, Nat.reduceEqDiff, Nat.reduceSub, Nat.reduceMul, Nat.reduceAdd]
  refine loop_p [6, 1, 2] [1, 2] (fun k : Nat => [(6, .t (.int .i64 (k : Nat)))]) (fun k => k ≤ w.Fixed.length ∧ fixOf index (w.Fixed.drop k) = fixOf index w.Fixed) (fun k => w.Fixed.length - k) 0 (by simp) ⟨Nat.zero_le _, rfl⟩ rfl ?_
  rintro k ⟨hk, hall⟩
  simp -implicitDefEqProofs only [keep, List.length_map, S0, S1, S2, S3, S4, S5, S6, S7, S8, S9, S10, S11, S12, S13, S14, S15, opv, opvs, eget, env0, setD, lenStr, lenSl, isNilP, isNilS, putAt, if_true, if_false, reduceCtorEq, Nat.reduceLeDiff, Nat.reduceEqDiff, Nat.reduceSub, Nat.reduceMul, Nat.reduceAdd]
  refine cond_split (fun h1 => ?_) (fun h1 => ?_)
  · obtain ⟨x, hx, hlt⟩ := at_of h1
    have hd := drop_of hx
    have more := i64_succ (show k < 4611686018427387904 by omega)
    rw [hd] at hall
    simp -implicitDefEqProofs only [hx, nat_nn, Nat.zero_le, List.getElem?_map, Option.map_some, RecFix.ts, List.length_map, more, S0, S1, S2, S3, S4, S5, S6, S7, S8, S9, S10, S11, S12, S13, S14, S15, opv, opvs, eget, env0, setD, lenStr, lenSl, isNilP, isNilS, putAt, if_true, if_false, reduceCtorEq, Nat.reduceLeDiff, Nat.reduceEqDiff, Nat.reduceSub, Nat.reduceMul, Nat.reduceAdd]
    refine cond_split (fun g1 => ?_) (fun g1 => ?_)
    · have hb : x.Index = index := by simpa using g1
      simp -implicitDefEqProofs only [hx, nat_nn, Nat.zero_le, List.getElem?_map, Option.map_some, RecFix.ts, List.length_map, more, S0, S1, S2, S3, S4, S5, S6, S7, S8, S9, S10, S11, S12, S13, S14, S15, opv, opvs, eget, env0, setD, lenStr, lenSl, isNilP, isNilS, putAt, if_true, if_false, reduceCtorEq, Nat.reduceLeDiff, Nat.reduceEqDiff, Nat.reduceSub, Nat.reduceMul, Nat.reduceAdd]
      simp only [fixOf, hb, if_true] at hall
      first | exact fin (by rw [← hall]; rfl) | exact fin0 (by rw [← hall]; rfl)
    · have hb : ¬ x.Index = index := by simpa using g1
      simp only [fixOf, hb, if_false] at hall
      simp -implicitDefEqProofs only [more, S0, S1, S2, S3, S4, S5, S6, S7, S8, S9, S10, S11, S12, S13, S14, S15, opv, opvs, eget, env0, setD, lenStr, lenSl, isNilP, isNilS, putAt, if_true, if_false, reduceCtorEq, Nat.reduceLeDiff, Nat.reduceEqDiff, Nat.reduceSub, Nat.reduceMul, Nat.reduceAdd]
      first | exact lk_p0 (k + 1) (by simp) (by simp) (by omega) ⟨by omega, hall⟩ rfl | exact lk_pm (k + 1) (Nat.le_refl _) (by simp) hσ rfl rfl (by omega) ⟨by omega, hall⟩ (by simp [ltE, keep, eget, V.lt]) rfl | exact lk_p (k + 1) (by simp) (by simp) hσ rfl (by omega) ⟨by omega, hall⟩ (by simp [ltE, keep, eget, V.lt]) rfl
  · have hkk := end_of h1 hk
    rw [hkk, List.drop_length] at hall
    simp -implicitDefEqProofs only [S0, S1, S2, S3, S4, S5, S6, S7, S8, S9, S10, S11, S12, S13, S14, S15, opv, opvs, eget, env0, setD, lenStr, lenSl, isNilP, isNilS, putAt, if_true, if_false, reduceCtorEq, Nat.reduceLeDiff, Nat.reduceEqDiff, Nat.reduceSub, Nat.reduceMul, Nat.reduceAdd]
    first | exact fin (by rw [← hall]; rfl) | exact fin0 (by rw [← hall]; rfl)

theorem impl_fixed (w : RecWorld) (hw : w.Ok) (index : Int) (σ : Store) (id : Nat) (hid : σ[id]? = some (.box w.vs)) : ACalls Try.prog 156 [.ptr id 0, .t (.int .i64 index)] σ fun rr σ' => rr = majV (fixOf index w.Fixed) ∧ σ' = σ := by
  refine acalls_of Try.func156 (by decide +kernel) (code := Try.f156.body.getD .skip) (n := 24) (c := c___impl_RecWorld__fixed) (rs := [(.tmp 4), (.tmp 5)]) rfl rfl k___impl_RecWorld__fixed (by kernel_rfl) (by simp) (fun hσ => ?_)
  have y1 := hw.Fixed.1
  rw [RecWorld.vs] at hid
  have fin : ∀ {u : List V} {τ : Store}, mkRes u = majV (fixOf index w.Fixed) → retV σ.length (fun rr σ' => rr = majV (fixOf index w.Fixed) ∧ σ' = σ) (σ ++ τ) (some u) := fun h => ret_same rfl hσ (by rw [h]; rfl) ⟨h, rfl⟩
  have fin0 : ∀ {u : List V}, mkRes u = majV (fixOf index w.Fixed) → retV σ.length (fun rr σ' => rr = majV (fixOf index w.Fixed) ∧ σ' = σ) σ (some u) := fun h => ret_same0 rfl ⟨h, rfl⟩
  simp -implicitDefEqProofs only [c___impl_RecWorld__fixed, hid, List.length_map, S0, S1, S2, S3, S4, S5, S6, S7, S8, S9, S10, S11, S12, S13, S14, S15, opv, opvs, eget, env0, setD, lenStr, lenSl, isNilP, isNilS, putAt, if_true, if_false, reduceCtorEq, Nat.reduceLeDiff, Nat.reduceEqDiff, Nat.reduceSub, Nat.reduceMul, Nat.reduceAdd]
  refine loop_p [13, 1, 11, 12] [1, 11, 12] (fun k : Nat => [(13, .t (.int .i64 (k : Nat)))]) (fun k => k ≤ w.Fixed.length ∧ fixOf index (w.Fixed.drop k) = fixOf index w.Fixed) (fun k => w.Fixed.length - k) 0 (by simp) ⟨Nat.zero_le _, rfl⟩ rfl ?_
  rintro k ⟨hk, hall⟩
  simp -implicitDefEqProofs only [keep, List.length_map, S0, S1, S2, S3, S4, S5, S6, S7, S8, S9, S10, S11, S12, S13, S14, S15, opv, opvs, eget, env0, setD, lenStr, lenSl, isNilP, isNilS, putAt, if_true, if_false, reduceCtorEq, Nat.reduceLeDiff, Nat.reduceEqDiff, Nat.reduceSub, Nat.reduceMul, Nat.reduceAdd]
  refine cond_split (fun h1 => ?_) (fun h1 => ?_)
  · obtain ⟨x, hx, hlt⟩ := at_of h1
    have hd := drop_of hx
    have more := i64_succ (show k < 4611686018427387904 by omega)
    rw [hd] at hall
    simp -implicitDefEqProofs only [hx, nat_nn, Nat.zero_le, List.getElem?_map, Option.map_some, RecFix.ts, List.length_map, more, S0, S1, S2, S3, S4, S5, S6, S7, S8, S9, S10, S11, S12, S13, S14, S15, opv, opvs, eget, env0, setD, lenStr, lenSl, isNilP, isNilS, putAt, if_true, if_false, reduceCtorEq, Nat.reduceLeDiff, Nat.reduceEqDiff, Nat.reduceSub, Nat.reduceMul, Nat.reduceAdd]
    refine cond_split (fun g1 => ?_) (fun g1 => ?_)
    · have hb : x.Index = index := by simpa using g1
      simp -implicitDefEqProofs only [hx, nat_nn, Nat.zero_le, List.getElem?_map, Option.map_some, RecFix.ts, List.length_map, more, S0, S1, S2, S3, S4, S5, S6, S7, S8, S9, S10, S11, S12, S13, S14, S15, opv, opvs, eget, env0, setD, lenStr, lenSl, isNilP, isNilS, putAt, if_true, if_false, reduceCtorEq, Nat.reduceLeDiff, Nat.reduceEqDiff, Nat.reduceSub, Nat.reduceMul, Nat.reduceAdd]
      simp only [fixOf, hb, if_true] at hall
      first | exact fin (by rw [← hall]; rfl) | exact fin0 (by rw [← hall]; rfl)
    · have hb : ¬ x.Index = index := by simpa using g1
      simp only [fixOf, hb, if_false] at hall
      simp -implicitDefEqProofs only [more, S0, S1, S2, S3, S4, S5, S6, S7, S8, S9, S10, S11, S12, S13, S14, S15, opv, opvs, eget, env0, setD, lenStr, lenSl, isNilP, isNilS, putAt, if_true, if_false, reduceCtorEq, Nat.reduceLeDiff, Nat.reduceEqDiff, Nat.reduceSub, Nat.reduceMul, Nat.reduceAdd]
      first | exact lk_p0 (k + 1) (by simp) (by simp) (by omega) ⟨by omega, hall⟩ rfl | exact lk_pm (k + 1) (Nat.le_refl _) (by simp) hσ rfl rfl (by omega) ⟨by omega, hall⟩ (by simp [ltE, keep, eget, V.lt]) rfl | exact lk_p (k + 1) (by simp) (by simp) hσ rfl (by omega) ⟨by omega, hall⟩ (by simp [ltE, keep, eget, V.lt]) rfl
  · have hkk := end_of h1 hk
    rw [hkk, List.drop_length] at hall
    simp -implicitDefEqProofs only [S0, S1, S2, S3, S4, S5, S6, S7, S8, S9, S10, S11, S12, S13, S14, S15, opv, opvs, eget, env0, setD, lenStr, lenSl, isNilP, isNilS, putAt, if_true, if_false, reduceCtorEq, Nat.reduceLeDiff, Nat.reduceEqDiff, Nat.reduceSub, Nat.reduceMul, Nat.reduceAdd]
    first | exact fin (by rw [← hall]; rfl) | exact fin0 (by rw [← hall]; rfl)

theorem book_len {r : Recorder} (hr : r.Ok) : (bookR r).length ≤ 1048576 := by
  have := hr.Disk.Slots.1
  unfold bookR textsOf
  split
  · simp; omega
  · simp
theorem specF_RecBook (r : Recorder) (hr : r.Ok) (σ : Store) : ACalls Try.prog 52 [.agg r.vs] σ fun rr σ' => rr = .t (tStrs (bookR r)) ∧ σ' = σ := acalls_frzT (spec_RecBook r hr σ)
theorem implF_book (r : Recorder) (hr : r.Ok) (hv : validR r = true) (σ : Store) : ACalls Try.prog 119 [.pv r.ts] σ fun rr σ' => rr = .t (tStrs (bookR r)) ∧ σ' = σ := by
  have hbook : bookR r = textsOf (r.Disk.Slots.take r.Disk.Known.toNat) := by unfold bookR; rw [if_pos hv]
  rw [hbook]
  obtain ⟨k0, k1⟩ := known_le hv
  exact acalls_frzT (impl_book_pv r hr k0 k1 σ)
def agreeRes (w : RecWorld) : Bool := worldOk w && agreeB w
theorem no_recs {w : RecWorld} {k : Nat} {x : Recorder} (hx : w.Recorders[k]? = some x) (h : booksP w x = false) : agreeB w = false := by
  have := all_not (l := w.Recorders) (p := booksP w) hx h
  simp [agreeB, this]
theorem no_book {w : RecWorld} {x : Recorder} {k : Nat} {t : List UInt8} (hx : (bookR x)[k]? = some t) (h : bookP w (t, k) = false) : booksP w x = false :=
  all_not (l := (bookR x).zipIdx) (p := bookP w) (zip_at hx) h
theorem no_maj {w : RecWorld} {k : Nat} (hk : k < 120) (h : majP w k = false) : agreeB w = false := by
  have := all_not (l := List.range 120) (p := majP w) (k := k) (x := k) (by simp [hk]) h
  simp [agreeB, this]

theorem spec_RecAgree (w : RecWorld) (hw : w.Ok) (σ : Store) : ACalls Try.prog 65 [.agg w.vs] σ fun rr σ' => rr = .t (.bool (agreeRes w)) ∧ σ' = σ := by
  refine acalls_of Try.func65 (by decide +kernel) (code := Try.f65.body.getD .skip) (n := 78) (c := c_spec_RecAgree) (rs := [(.tmp 2)]) rfl rfl k_spec_RecAgree (by kernel_rfl) (by simp) (fun hσ => ?_)
  have y1 := hw.Recorders.1
  have fin : ∀ {u : V} {τ : Store}, u = .t (.bool (agreeRes w)) → retV σ.length (fun rr σ' => rr = .t (.bool (agreeRes w)) ∧ σ' = σ) (σ ++ τ) (some [u]) := fun h => ret_same rfl hσ (by rw [h]; rfl) ⟨h, rfl⟩
  simp -implicitDefEqProofs only [c_spec_RecAgree, RecWorld.vs, S0, S1, S2, S3, S4, S5, S6, S7, S8, S9, S10, S11, S12, S13, S14, S15, opv, opvs, eget, env0, setD, lenStr, lenSl, isNilP, isNilS, putAt, if_true, if_false, reduceCtorEq, Nat.reduceLeDiff, Nat.reduceEqDiff, Nat.reduceSub, Nat.reduceMul, Nat.reduceAdd]
  refine call_pure (spec_RecWorldOk w hw _) ?_
  simp -implicitDefEqProofs only [S0, S1, S2, S3, S4, S5, S6, S7, S8, S9, S10, S11, S12, S13, S14, S15, opv, opvs, eget, env0, setD, lenStr, lenSl, isNilP, isNilS, putAt, if_true, if_false, reduceCtorEq, Nat.reduceLeDiff, Nat.reduceEqDiff, Nat.reduceSub, Nat.reduceMul, Nat.reduceAdd]
  refine cond_split (fun h => ?_) (fun h => ?_)
  · have hv : worldOk w = false := by simpa using h
    simp -implicitDefEqProofs only [S0, S1, S2, S3, S4, S5, S6, S7, S8, S9, S10, S11, S12, S13, S14, S15, opv, opvs, eget, env0, setD, lenStr, lenSl, isNilP, isNilS, putAt, if_true, if_false, reduceCtorEq, Nat.reduceLeDiff, Nat.reduceEqDiff, Nat.reduceSub, Nat.reduceMul, Nat.reduceAdd]
    exact fin (by simp [agreeRes, hv])
  have hv : worldOk w = true := by simpa using h
  simp -implicitDefEqProofs only [List.length_map, S0, S1, S2, S3, S4, S5, S6, S7, S8, S9, S10, S11, S12, S13, S14, S15, opv, opvs, eget, env0, setD, lenStr, lenSl, isNilP, isNilS, putAt, if_true, if_false, reduceCtorEq, Nat.reduceLeDiff, Nat.reduceEqDiff, Nat.reduceSub, Nat.reduceMul, Nat.reduceAdd]
  refine loop_p [3, 1] [1] (fun k : Nat => [(3, .t (.int .i64 (k : Nat)))]) (fun k => k ≤ w.Recorders.length ∧ (w.Recorders.take k).all (booksP w) = true) (fun k => w.Recorders.length - k) 0 (by simp) ⟨Nat.zero_le _, rfl⟩ rfl ?_
  rintro k ⟨hk, hall⟩
  simp -implicitDefEqProofs only [keep, List.length_map, S0, S1, S2, S3, S4, S5, S6, S7, S8, S9, S10, S11, S12, S13, S14, S15, opv, opvs, eget, env0, setD, lenStr, lenSl, isNilP, isNilS, putAt, if_true, if_false, reduceCtorEq, Nat.reduceLeDiff, Nat.reduceEqDiff, Nat.reduceSub, Nat.reduceMul, Nat.reduceAdd]
  refine cond_split (fun h1 => ?_) (fun h1 => ?_)
  · obtain ⟨x, hx, hlt⟩ := at_of h1
    have hxo := hw.Recorders.2 x (mem_at hx)
    have more := i64_succ (show k < 4611686018427387904 by omega)
    have hbl := book_len hxo
    simp -implicitDefEqProofs only [hx, nat_nn, Nat.zero_le, List.getElem?_map, Option.map_some, Recorder.ts, List.length_map, more, S0, S1, S2, S3, S4, S5, S6, S7, S8, S9, S10, S11, S12, S13, S14, S15, opv, opvs, eget, env0, setD, lenStr, lenSl, isNilP, isNilS, putAt, if_true, if_false, reduceCtorEq, Nat.reduceLeDiff, Nat.reduceEqDiff, Nat.reduceSub, Nat.reduceMul, Nat.reduceAdd]
    refine call_pure (specF_RecBook x hxo _) ?_
    simp -implicitDefEqProofs only [S0, S1, S2, S3, S4, S5, S6, S7, S8, S9, S10, S11, S12, S13, S14, S15, opv, opvs, eget, env0, setD, lenStr, lenSl, isNilP, isNilS, putAt, if_true, if_false, reduceCtorEq, Nat.reduceLeDiff, Nat.reduceEqDiff, Nat.reduceSub, Nat.reduceMul, Nat.reduceAdd]
    refine loop_p [5, 1, 3, 4] [1, 3, 4] (fun j : Nat => [(5, .t (.int .i64 (j : Nat)))]) (fun j => j ≤ (bookR x).length ∧ ((bookR x).zipIdx.take j).all (bookP w) = true) (fun j => (bookR x).length - j) 0 (by simp) ⟨Nat.zero_le _, rfl⟩ rfl ?_
    rintro j ⟨hj, hall2⟩
    simp -implicitDefEqProofs only [keep, List.length_map, S0, S1, S2, S3, S4, S5, S6, S7, S8, S9, S10, S11, S12, S13, S14, S15, opv, opvs, eget, env0, setD, lenStr, lenSl, isNilP, isNilS, putAt, if_true, if_false, reduceCtorEq, Nat.reduceLeDiff, Nat.reduceEqDiff, Nat.reduceSub, Nat.reduceMul, Nat.reduceAdd]
    refine cond_split (fun h2 => ?_) (fun h2 => ?_)
    · obtain ⟨t, ht, hlt2⟩ := at_of h2
      have more2 := i64_succ (show j < 4611686018427387904 by omega)
      simp -implicitDefEqProofs only [ht, nat_nn, Nat.zero_le, List.getElem?_map, Option.map_some, List.length_map, more2, S0, S1, S2, S3, S4, S5, S6, S7, S8, S9, S10, S11, S12, S13, S14, S15, opv, opvs, eget, env0, setD, lenStr, lenSl, isNilP, isNilS, putAt, if_true, if_false, reduceCtorEq, Nat.reduceLeDiff, Nat.reduceEqDiff, Nat.reduceSub, Nat.reduceMul, Nat.reduceAdd]
      refine call_pure (spec_l27Fixed w hw _ _) ?_
      simp -implicitDefEqProofs only [majV, ht, nat_nn, Nat.zero_le, List.getElem?_map, Option.map_some, List.length_map, more2, tStr, S0, S1, S2, S3, S4, S5, S6, S7, S8, S9, S10, S11, S12, S13, S14, S15, opv, opvs, eget, env0, setD, lenStr, lenSl, isNilP, isNilS, putAt, if_true, if_false, reduceCtorEq, Nat.reduceLeDiff, Nat.reduceEqDiff, Nat.reduceSub, Nat.reduceMul, Nat.reduceAdd]
      generalize hf : fixOf ((j + 1 : Nat) : Int) w.Fixed = F
      obtain ⟨ft, fb⟩ := F
      simp only
      have hh : True := trivial
      repeat' (first
        | ((with_reducible refine cond_known (fun h => ?_) (fun h => ?_)) <;> (replace hh := And.intro h hh; clear h; simp -implicitDefEqProofs only [hh, cond_t, cond_f, ht, nat_nn, Nat.zero_le, List.getElem?_map, Option.map_some, List.length_map, more2, tStr, S0, S1, S2, S3, S4, S5, S6, S7, S8, S9, S10, S11, S12, S13, S14, S15, opv, opvs, eget, env0, setD, lenStr, lenSl, isNilP, isNilS, putAt, if_true, if_false, reduceCtorEq, Nat.reduceLeDiff, Nat.reduceEqDiff, Nat.reduceSub, Nat.reduceMul, Nat.reduceAdd]))
        | (refine fin (tb ?_); simp only [Known] at hh; have hno := no_recs hx (no_book (w := w) ht (by grind [bookP])); simp [agreeRes, hno])
        | (first | exact lk_p0 (j + 1) (by simp) (by simp) (by omega) ⟨by omega, all_step (zip_at ht) hall2 (by (try simp only [Known] at hh); grind [bookP])⟩ rfl | exact lk_pm (j + 1) (Nat.le_refl _) (by simp) hσ rfl rfl (by omega) ⟨by omega, all_step (zip_at ht) hall2 (by (try simp only [Known] at hh); grind [bookP])⟩ (by simp [ltE, keep, eget, V.lt]) rfl | exact lk_p (j + 1) (by simp) (by simp) hσ rfl (by omega) ⟨by omega, all_step (zip_at ht) hall2 (by (try simp only [Known] at hh); grind [bookP])⟩ (by simp [ltE, keep, eget, V.lt]) rfl))
    · have hjj := end_of h2 hj
      have hbp : booksP w x = true := all_len hall2 (hjj.trans (by simp))
      simp -implicitDefEqProofs only [more, S0, S1, S2, S3, S4, S5, S6, S7, S8, S9, S10, S11, S12, S13, S14, S15, opv, opvs, eget, env0, setD, lenStr, lenSl, isNilP, isNilS, putAt, if_true, if_false, reduceCtorEq, Nat.reduceLeDiff, Nat.reduceEqDiff, Nat.reduceSub, Nat.reduceMul, Nat.reduceAdd]
      first | exact lk_p0 (k + 1) (by simp) (by simp) (by omega) ⟨by omega, all_step hx hall hbp⟩ rfl | exact lk_pm (k + 1) (Nat.le_refl _) (by simp) hσ rfl rfl (by omega) ⟨by omega, all_step hx hall hbp⟩ (by simp [ltE, keep, eget, V.lt]) rfl | exact lk_p (k + 1) (by simp) (by simp) hσ rfl (by omega) ⟨by omega, all_step hx hall hbp⟩ (by simp [ltE, keep, eget, V.lt]) rfl
  · replace hall := all_len hall (end_of h1 hk)
    simp -implicitDefEqProofs only [S0, S1, S2, S3, S4, S5, S6, S7, S8, S9, S10, S11, S12, S13, S14, S15, opv, opvs, eget, env0, setD, lenStr, lenSl, isNilP, isNilS, putAt, if_true, if_false, reduceCtorEq, Nat.reduceLeDiff, Nat.reduceEqDiff, Nat.reduceSub, Nat.reduceMul, Nat.reduceAdd]
    refine loop_p [8, 1] [1] (fun k : Nat => [(8, .t (.int .i64 ((k + 1 : Nat) : Int)))]) (fun k => k ≤ 120 ∧ ((List.range 120).take k).all (majP w) = true) (fun k => 120 - k) 0 (by simp) ⟨Nat.zero_le _, rfl⟩ rfl ?_
    rintro j ⟨hj, hall2⟩
    simp -implicitDefEqProofs only [keep, S0, S1, S2, S3, S4, S5, S6, S7, S8, S9, S10, S11, S12, S13, S14, S15, opv, opvs, eget, env0, setD, lenStr, lenSl, isNilP, isNilS, putAt, if_true, if_false, reduceCtorEq, Nat.reduceLeDiff, Nat.reduceEqDiff, Nat.reduceSub, Nat.reduceMul, Nat.reduceAdd]
    refine cond_split (fun h2 => ?_) (fun h2 => ?_)
    · have hlt : j < 120 := by simp at h2; omega
      have more2 := i64_succ (show j + 1 < 4611686018427387904 by omega)
      simp -implicitDefEqProofs only [more2, S0, S1, S2, S3, S4, S5, S6, S7, S8, S9, S10, S11, S12, S13, S14, S15, opv, opvs, eget, env0, setD, lenStr, lenSl, isNilP, isNilS, putAt, if_true, if_false, reduceCtorEq, Nat.reduceLeDiff, Nat.reduceEqDiff, Nat.reduceSub, Nat.reduceMul, Nat.reduceAdd]
      refine call_pure (spec_l27Major w hw _ (by simp only [i64r]; omega) _) ?_
      simp -implicitDefEqProofs only [majV, more2, S0, S1, S2, S3, S4, S5, S6, S7, S8, S9, S10, S11, S12, S13, S14, S15, opv, opvs, eget, env0, setD, lenStr, lenSl, isNilP, isNilS, putAt, if_true, if_false, reduceCtorEq, Nat.reduceLeDiff, Nat.reduceEqDiff, Nat.reduceSub, Nat.reduceMul, Nat.reduceAdd]
      refine call_pure (spec_l27Fixed w hw _ _) ?_
      simp -implicitDefEqProofs only [majV, more2, S0, S1, S2, S3, S4, S5, S6, S7, S8, S9, S10, S11, S12, S13, S14, S15, opv, opvs, eget, env0, setD, lenStr, lenSl, isNilP, isNilS, putAt, if_true, if_false, reduceCtorEq, Nat.reduceLeDiff, Nat.reduceEqDiff, Nat.reduceSub, Nat.reduceMul, Nat.reduceAdd]
      generalize hf : fixOf ((j + 1 : Nat) : Int) w.Fixed = F
      generalize hg : majR w ((j + 1 : Nat) : Int) = G
      obtain ⟨ft, fb⟩ := F
      obtain ⟨gt, gb⟩ := G
      simp only
      have hh : True := trivial
      repeat' (first
        | ((with_reducible refine cond_known (fun h => ?_) (fun h => ?_)) <;> (replace hh := And.intro h hh; clear h; simp -implicitDefEqProofs only [hh, cond_t, cond_f, more2, S0, S1, S2, S3, S4, S5, S6, S7, S8, S9, S10, S11, S12, S13, S14, S15, opv, opvs, eget, env0, setD, lenStr, lenSl, isNilP, isNilS, putAt, if_true, if_false, reduceCtorEq, Nat.reduceLeDiff, Nat.reduceEqDiff, Nat.reduceSub, Nat.reduceMul, Nat.reduceAdd]))
        | (refine fin (tb ?_); simp only [Known] at hh; have hno := no_maj (w := w) hlt (by grind [majP]); simp [agreeRes, hno])
        | (first | exact lk_p0 (j + 1) (by simp) (by simp) (by omega) ⟨by omega, all_step (x := j) (by simp [hlt]) hall2 (by (try simp only [Known] at hh); grind [majP])⟩ rfl | exact lk_pm (j + 1) (Nat.le_refl _) (by simp) hσ rfl rfl (by omega) ⟨by omega, all_step (x := j) (by simp [hlt]) hall2 (by (try simp only [Known] at hh); grind [majP])⟩ (by simp [ltE, keep, eget, V.lt]) rfl | exact lk_p (j + 1) (by simp) (by simp) hσ rfl (by omega) ⟨by omega, all_step (x := j) (by simp [hlt]) hall2 (by (try simp only [Known] at hh); grind [majP])⟩ (by simp [ltE, keep, eget, V.lt]) rfl))
    · have hjj : j = 120 := by simp at h2; omega
      subst hjj
      replace hall2 := all_len hall2 (by simp)
      simp -implicitDefEqProofs only [S0, S1, S2, S3, S4, S5, S6, S7, S8, S9, S10, S11, S12, S13, S14, S15, opv, opvs, eget, env0, setD, lenStr, lenSl, isNilP, isNilS, putAt, if_true, if_false, reduceCtorEq, Nat.reduceLeDiff, Nat.reduceEqDiff, Nat.reduceSub, Nat.reduceMul, Nat.reduceAdd]
      exact fin (by simp [agreeRes, agreeB, hv, hall, hall2])

theorem rec_valid {w : RecWorld} (hv : worldOk w = true) {r : Recorder} (hr : r ∈ w.Recorders) : validR r = true := by
  obtain ⟨i, hi, rfl⟩ := List.getElem_of_mem hr
  have h1 : w.Recorders.zipIdx.all (recP w) = true := by grind [worldOk]
  have h2 := List.all_eq_true.1 h1 (w.Recorders[i], i) (by rw [List.mem_zipIdx_iff_getElem?]; simp [hi])
  grind [recP]

theorem impl_agree (w : RecWorld) (hw : w.Ok) (hv : worldOk w = true) (σ : Store) (id : Nat) (hid : σ[id]? = some (.box w.vs)) : ACalls Try.prog 130 [.ptr id 0] σ fun rr σ' => rr = .t (.bool (agreeB w)) ∧ σ' = σ := by
  refine acalls_of Try.func130 (by decide +kernel) (code := Try.f130.body.getD .skip) (n := 74) (c := c___impl_RecWorld__agree) (rs := [(.tmp 2)]) rfl rfl k___impl_RecWorld__agree (by kernel_rfl) (by simp) (fun hσ => ?_)
  have y1 := hw.Recorders.1
  have hid' := hid
  rw [RecWorld.vs] at hid
  have hidl : id < σ.length := (List.getElem?_eq_some_iff.1 hid).1
  have fin : ∀ {u : V} {τ : Store}, u = .t (.bool (agreeB w)) → retV σ.length (fun rr σ' => rr = .t (.bool (agreeB w)) ∧ σ' = σ) (σ ++ τ) (some [u]) := fun h => ret_same rfl hσ (by rw [h]; rfl) ⟨h, rfl⟩
  have fin0 : ∀ {u : V}, u = .t (.bool (agreeB w)) → retV σ.length (fun rr σ' => rr = .t (.bool (agreeB w)) ∧ σ' = σ) σ (some [u]) := fun h => ret_same0 rfl ⟨h, rfl⟩
  simp -implicitDefEqProofs only [c___impl_RecWorld__agree, hid, List.length_map, S0, S1, S2, S3, S4, S5, S6, S7, S8, S9, S10, S11, S12, S13, S14, S15, opv, opvs, eget, env0, setD, lenStr, lenSl, isNilP, isNilS, putAt, if_true, if_false, reduceCtorEq, Nat.reduceLeDiff, Nat.reduceEqDiff, Nat.reduceSub, Nat.reduceMul, Nat.reduceAdd]
  refine loop_p [18, 0, 17] [0, 17] (fun k : Nat => [(18, .t (.int .i64 (k : Nat)))]) (fun k => k ≤ w.Recorders.length ∧ (w.Recorders.take k).all (booksP w) = true) (fun k => w.Recorders.length - k) 0 (by simp) ⟨Nat.zero_le _, rfl⟩ rfl ?_
  rintro k ⟨hk, hall⟩
  simp -implicitDefEqProofs only [keep, List.length_map, S0, S1, S2, S3, S4, S5, S6, S7, S8, S9, S10, S11, S12, S13, S14, S15, opv, opvs, eget, env0, setD, lenStr, lenSl, isNilP, isNilS, putAt, if_true, if_false, reduceCtorEq, Nat.reduceLeDiff, Nat.reduceEqDiff, Nat.reduceSub, Nat.reduceMul, Nat.reduceAdd]
  refine cond_split (fun h1 => ?_) (fun h1 => ?_)
  · obtain ⟨x, hx, hlt⟩ := at_of h1
    have hxo := hw.Recorders.2 x (mem_at hx)
    have more := i64_succ (show k < 4611686018427387904 by omega)
    have hbl := book_len hxo
    have bk := implF_book x hxo (rec_valid hv (mem_at hx))
    simp only [Recorder.ts] at bk
    simp -implicitDefEqProofs only [hid, hx, nat_nn, Nat.zero_le, List.getElem?_map, Option.map_some, Recorder.ts, List.length_map, more, S0, S1, S2, S3, S4, S5, S6, S7, S8, S9, S10, S11, S12, S13, S14, S15, opv, opvs, eget, env0, setD, lenStr, lenSl, isNilP, isNilS, putAt, if_true, if_false, reduceCtorEq, Nat.reduceLeDiff, Nat.reduceEqDiff, Nat.reduceSub, Nat.reduceMul, Nat.reduceAdd]
    refine call_pure (bk _) ?_
    simp -implicitDefEqProofs only [List.length_map, S0, S1, S2, S3, S4, S5, S6, S7, S8, S9, S10, S11, S12, S13, S14, S15, opv, opvs, eget, env0, setD, lenStr, lenSl, isNilP, isNilS, putAt, if_true, if_false, reduceCtorEq, Nat.reduceLeDiff, Nat.reduceEqDiff, Nat.reduceSub, Nat.reduceMul, Nat.reduceAdd]
    refine loop_p [29, 0, 17, 18, 27, 28] [0, 17, 18, 27, 28] (fun j : Nat => [(29, .t (.int .i64 (j : Nat)))]) (fun j => j ≤ (bookR x).length ∧ ((bookR x).zipIdx.take j).all (bookP w) = true) (fun j => (bookR x).length - j) 0 (by simp) ⟨Nat.zero_le _, rfl⟩ rfl ?_
    rintro j ⟨hj, hall2⟩
    simp -implicitDefEqProofs only [keep, List.length_map, S0, S1, S2, S3, S4, S5, S6, S7, S8, S9, S10, S11, S12, S13, S14, S15, opv, opvs, eget, env0, setD, lenStr, lenSl, isNilP, isNilS, putAt, if_true, if_false, reduceCtorEq, Nat.reduceLeDiff, Nat.reduceEqDiff, Nat.reduceSub, Nat.reduceMul, Nat.reduceAdd]
    refine cond_split (fun h2 => ?_) (fun h2 => ?_)
    · obtain ⟨t, ht, hlt2⟩ := at_of h2
      have more2 := i64_succ (show j < 4611686018427387904 by omega)
      simp -implicitDefEqProofs only [hid, ht, nat_nn, Nat.zero_le, List.getElem?_map, Option.map_some, List.length_map, more2, tStr, S0, S1, S2, S3, S4, S5, S6, S7, S8, S9, S10, S11, S12, S13, S14, S15, opv, opvs, eget, env0, setD, lenStr, lenSl, isNilP, isNilS, putAt, if_true, if_false, reduceCtorEq, Nat.reduceLeDiff, Nat.reduceEqDiff, Nat.reduceSub, Nat.reduceMul, Nat.reduceAdd]
      refine call_pure (impl_fixed w hw _ _ id hid') ?_
      simp -implicitDefEqProofs only [majV, hid, ht, nat_nn, Nat.zero_le, List.getElem?_map, Option.map_some, List.length_map, more2, tStr, S0, S1, S2, S3, S4, S5, S6, S7, S8, S9, S10, S11, S12, S13, S14, S15, opv, opvs, eget, env0, setD, lenStr, lenSl, isNilP, isNilS, putAt, if_true, if_false, reduceCtorEq, Nat.reduceLeDiff, Nat.reduceEqDiff, Nat.reduceSub, Nat.reduceMul, Nat.reduceAdd]
      generalize hf : fixOf ((j + 1 : Nat) : Int) w.Fixed = F
      obtain ⟨ft, fb⟩ := F
      simp only
      have hh : True := trivial
      repeat' (first
        | ((with_reducible refine cond_known (fun h => ?_) (fun h => ?_)) <;> (replace hh := And.intro h hh; clear h; simp -implicitDefEqProofs only [hh, cond_t, cond_f, ht, nat_nn, Nat.zero_le, List.getElem?_map, Option.map_some, List.length_map, more2, tStr, S0, S1, S2, S3, S4, S5, S6, S7, S8, S9, S10, S11, S12, S13, S14, S15, opv, opvs, eget, env0, setD, lenStr, lenSl, isNilP, isNilS, putAt, if_true, if_false, reduceCtorEq, Nat.reduceLeDiff, Nat.reduceEqDiff, Nat.reduceSub, Nat.reduceMul, Nat.reduceAdd]))
        | ((first | refine fin (tb ?_) | refine fin0 (tb ?_)); simp only [Known] at hh; have hno := no_recs hx (no_book (w := w) ht (by grind [bookP])); simp [hno])
        | (first | exact lk_p0 (j + 1) (by simp) (by simp) (by omega) ⟨by omega, all_step (zip_at ht) hall2 (by (try simp only [Known] at hh); grind [bookP])⟩ rfl | exact lk_pm (j + 1) (Nat.le_refl _) (by simp) hσ rfl rfl (by omega) ⟨by omega, all_step (zip_at ht) hall2 (by (try simp only [Known] at hh); grind [bookP])⟩ (by simp [ltE, keep, eget, V.lt]) rfl | exact lk_p (j + 1) (by simp) (by simp) hσ rfl (by omega) ⟨by omega, all_step (zip_at ht) hall2 (by (try simp only [Known] at hh); grind [bookP])⟩ (by simp [ltE, keep, eget, V.lt]) rfl))
    · have hjj := end_of h2 hj
      have hbp : booksP w x = true := all_len hall2 (hjj.trans (by simp))
      simp -implicitDefEqProofs only [more, S0, S1, S2, S3, S4, S5, S6, S7, S8, S9, S10, S11, S12, S13, S14, S15, opv, opvs, eget, env0, setD, lenStr, lenSl, isNilP, isNilS, putAt, if_true, if_false, reduceCtorEq, Nat.reduceLeDiff, Nat.reduceEqDiff, Nat.reduceSub, Nat.reduceMul, Nat.reduceAdd]
      first | exact lk_p0 (k + 1) (by simp) (by simp) (by omega) ⟨by omega, all_step hx hall hbp⟩ rfl | exact lk_pm (k + 1) (Nat.le_refl _) (by simp) hσ rfl rfl (by omega) ⟨by omega, all_step hx hall hbp⟩ (by simp [ltE, keep, eget, V.lt]) rfl | exact lk_p (k + 1) (by simp) (by simp) hσ rfl (by omega) ⟨by omega, all_step hx hall hbp⟩ (by simp [ltE, keep, eget, V.lt]) rfl
  · replace hall := all_len hall (end_of h1 hk)
    simp -implicitDefEqProofs only [S0, S1, S2, S3, S4, S5, S6, S7, S8, S9, S10, S11, S12, S13, S14, S15, opv, opvs, eget, env0, setD, lenStr, lenSl, isNilP, isNilS, putAt, if_true, if_false, reduceCtorEq, Nat.reduceLeDiff, Nat.reduceEqDiff, Nat.reduceSub, Nat.reduceMul, Nat.reduceAdd]
    refine loop_p [8, 0] [0] (fun k : Nat => [(8, .t (.int .i64 ((k + 1 : Nat) : Int)))]) (fun k => k ≤ 120 ∧ ((List.range 120).take k).all (majP w) = true) (fun k => 120 - k) 0 (by simp) ⟨Nat.zero_le _, rfl⟩ rfl ?_
    rintro j ⟨hj, hall2⟩
    simp -implicitDefEqProofs only [keep, S0, S1, S2, S3, S4, S5, S6, S7, S8, S9, S10, S11, S12, S13, S14, S15, opv, opvs, eget, env0, setD, lenStr, lenSl, isNilP, isNilS, putAt, if_true, if_false, reduceCtorEq, Nat.reduceLeDiff, Nat.reduceEqDiff, Nat.reduceSub, Nat.reduceMul, Nat.reduceAdd]
    refine cond_split (fun h2 => ?_) (fun h2 => ?_)
    · have hlt : j < 120 := by simp at h2; omega
      have more2 := i64_succ (show j + 1 < 4611686018427387904 by omega)
      simp -implicitDefEqProofs only [more2, S0, S1, S2, S3, S4, S5, S6, S7, S8, S9, S10, S11, S12, S13, S14, S15, opv, opvs, eget, env0, setD, lenStr, lenSl, isNilP, isNilS, putAt, if_true, if_false, reduceCtorEq, Nat.reduceLeDiff, Nat.reduceEqDiff, Nat.reduceSub, Nat.reduceMul, Nat.reduceAdd]
      refine call_pure (impl_major w hw hv _ (by simp only [i64r]; omega) _ id hid') ?_
      simp -implicitDefEqProofs only [majV, more2, S0, S1, S2, S3, S4, S5, S6, S7, S8, S9, S10, S11, S12, S13, S14, S15, opv, opvs, eget, env0, setD, lenStr, lenSl, isNilP, isNilS, putAt, if_true, if_false, reduceCtorEq, Nat.reduceLeDiff, Nat.reduceEqDiff, Nat.reduceSub, Nat.reduceMul, Nat.reduceAdd]
      generalize hf : fixOf ((j + 1 : Nat) : Int) w.Fixed = F
      generalize hg : majR w ((j + 1 : Nat) : Int) = G
      obtain ⟨ft, fb⟩ := F
      obtain ⟨gt, gb⟩ := G
      have hfx := impl_fixed w hw ((j + 1 : Nat) : Int) σ id hid'
      rw [hf] at hfx
      simp only
      have hh : True := trivial
      repeat' (first
        | ((with_reducible refine cond_known (fun h => ?_) (fun h => ?_)) <;> (replace hh := And.intro h hh; clear h; simp -implicitDefEqProofs only [hh, cond_t, cond_f, more2, S0, S1, S2, S3, S4, S5, S6, S7, S8, S9, S10, S11, S12, S13, S14, S15, opv, opvs, eget, env0, setD, lenStr, lenSl, isNilP, isNilS, putAt, if_true, if_false, reduceCtorEq, Nat.reduceLeDiff, Nat.reduceEqDiff, Nat.reduceSub, Nat.reduceMul, Nat.reduceAdd]))
        | ((with_reducible refine call_pure hfx ?_); simp -implicitDefEqProofs only [majV, hh, cond_t, cond_f, more2, S0, S1, S2, S3, S4, S5, S6, S7, S8, S9, S10, S11, S12, S13, S14, S15, opv, opvs, eget, env0, setD, lenStr, lenSl, isNilP, isNilS, putAt, if_true, if_false, reduceCtorEq, Nat.reduceLeDiff, Nat.reduceEqDiff, Nat.reduceSub, Nat.reduceMul, Nat.reduceAdd])
        | ((first | refine fin (tb ?_) | refine fin0 (tb ?_)); simp only [Known] at hh; have hno := no_maj (w := w) hlt (by grind [majP]); simp [hno])
        | (first | exact lk_p0 (j + 1) (by simp) (by simp) (by omega) ⟨by omega, all_step (x := j) (by simp [hlt]) hall2 (by (try simp only [Known] at hh); grind [majP])⟩ rfl | exact lk_pm (j + 1) (Nat.le_refl _) (by simp) hσ rfl rfl (by omega) ⟨by omega, all_step (x := j) (by simp [hlt]) hall2 (by (try simp only [Known] at hh); grind [majP])⟩ (by simp [ltE, keep, eget, V.lt]) rfl | exact lk_p (j + 1) (by simp) (by simp) hσ rfl (by omega) ⟨by omega, all_step (x := j) (by simp [hlt]) hall2 (by (try simp only [Known] at hh); grind [majP])⟩ (by simp [ltE, keep, eget, V.lt]) rfl))
    · have hjj : j = 120 := by simp at h2; omega
      subst hjj
      replace hall2 := all_len hall2 (by simp)
      simp -implicitDefEqProofs only [S0, S1, S2, S3, S4, S5, S6, S7, S8, S9, S10, S11, S12, S13, S14, S15, opv, opvs, eget, env0, setD, lenStr, lenSl, isNilP, isNilS, putAt, if_true, if_false, reduceCtorEq, Nat.reduceLeDiff, Nat.reduceEqDiff, Nat.reduceSub, Nat.reduceMul, Nat.reduceAdd]
      first | exact fin (by simp [agreeB, hall, hall2]) | exact fin0 (by simp [agreeB, hall, hall2])
theorem impl_RecAgree (w : RecWorld) (hw : w.Ok) (σ : Store) : ACalls Try.prog 66 [.agg w.vs] σ fun rr σ' => rr = .t (.bool (agreeRes w)) ∧ σ' = σ := by
  refine acalls_of Try.func66 (by decide +kernel) (code := Try.f66.body.getD .skip) (n := 8) (c := c_impl_RecAgree) (rs := [(.tmp 2)]) rfl rfl k_impl_RecAgree (by kernel_rfl) (by simp) (fun hσ => ?_)
  have fin : ∀ {u : V} {τ : Store}, u = .t (.bool (agreeRes w)) → retV σ.length (fun rr σ' => rr = .t (.bool (agreeRes w)) ∧ σ' = σ) (σ ++ τ) (some [u]) := fun h => ret_same rfl hσ (by rw [h]; rfl) ⟨h, rfl⟩
  simp -implicitDefEqProofs only [c_impl_RecAgree, RecWorld.vs, S0, S1, S2, S3, S4, S5, S6, S7, S8, S9, S10, S11, S12, S13, S14, S15, opv, opvs, eget, env0, setD, lenStr, lenSl, isNilP, isNilS, putAt, if_true, if_false, reduceCtorEq, Nat.reduceLeDiff, Nat.reduceEqDiff, Nat.reduceSub, Nat.reduceMul, Nat.reduceAdd]
  refine call_pure (impl_RecWorldOk w hw _) ?_
  simp -implicitDefEqProofs only [S0, S1, S2, S3, S4, S5, S6, S7, S8, S9, S10, S11, S12, S13, S14, S15, opv, opvs, eget, env0, setD, lenStr, lenSl, isNilP, isNilS, putAt, if_true, if_false, reduceCtorEq, Nat.reduceLeDiff, Nat.reduceEqDiff, Nat.reduceSub, Nat.reduceMul, Nat.reduceAdd]
  refine cond_split (fun h => ?_) (fun h => ?_)
  · have hv : worldOk w = true := by simpa using h
    simp -implicitDefEqProofs only [S0, S1, S2, S3, S4, S5, S6, S7, S8, S9, S10, S11, S12, S13, S14, S15, opv, opvs, eget, env0, setD, lenStr, lenSl, isNilP, isNilS, putAt, if_true, if_false, reduceCtorEq, Nat.reduceLeDiff, Nat.reduceEqDiff, Nat.reduceSub, Nat.reduceMul, Nat.reduceAdd]
    refine call_pure (impl_agree w hw hv _ _ (by simp)) ?_
    simp -implicitDefEqProofs only [h, S0, S1, S2, S3, S4, S5, S6, S7, S8, S9, S10, S11, S12, S13, S14, S15, opv, opvs, eget, env0, setD, lenStr, lenSl, isNilP, isNilS, putAt, if_true, if_false, reduceCtorEq, Nat.reduceLeDiff, Nat.reduceEqDiff, Nat.reduceSub, Nat.reduceMul, Nat.reduceAdd]
    exact fin (by simp [agreeRes, hv])
  · have hv : worldOk w = false := by simpa using h
    simp -implicitDefEqProofs only [h, S0, S1, S2, S3, S4, S5, S6, S7, S8, S9, S10, S11, S12, S13, S14, S15, opv, opvs, eget, env0, setD, lenStr, lenSl, isNilP, isNilS, putAt, if_true, if_false, reduceCtorEq, Nat.reduceLeDiff, Nat.reduceEqDiff, Nat.reduceSub, Nat.reduceMul, Nat.reduceAdd]
    exact fin (by simp [agreeRes, hv])

end Go.Proofs.Ytleilaipdhmgeaa.W
