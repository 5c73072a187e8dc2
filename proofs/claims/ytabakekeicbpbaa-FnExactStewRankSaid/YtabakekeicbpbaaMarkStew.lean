/- The marks' text. Conditions: none. -/
/- Marks and looks at them again, for these structs (printed by marks.py). Conditions: none. -/
import Derived.Test.YtabakekeicbpbaaAb4
import Derived.IntWalk
import Derived.Test.YtabakekeicbpbaaProg
import Derived.KernelRfl
import Derived.Test.YtabakekeicbpbaaTypesStew
set_option linter.unusedSimpArgs false
set_option linter.unusedVariables false
set_option linter.defProp false

section
open Go Go.Ab
namespace Go.Proofs.Ytabakekeicbpbaa.W
def c_laws_markText : C := (.seq (.ops [⟨(some 2), none, (.mv (.c (.t (.str []))))⟩]) (.seq (.seq (.ops [⟨(some 4), none, (.mv (.t 0))⟩, ⟨(some 5), none, (.bin .leq (.t 4) (.c (.t (.int .i64 0))))⟩]) (.cond (.t 5) (.seq (.ops [⟨(some 2), none, (.mv (.c (.t (.str [109, 48]))))⟩]) .ret) .skip)) (.seq (.ops [⟨(some 3), none, (.mv (.c (.t (.str []))))⟩]) (.seq (.block 0 (.loop (.seq (.seq (.ops [⟨(some 6), none, (.mv (.t 0))⟩, ⟨(some 7), none, (.bin .gtr (.t 6) (.c (.t (.int .i64 0))))⟩]) (.cond (.t 7) .skip (.exit 0))) (.block 1 (.seq (.ops [⟨(some 8), none, (.mv (.t 0))⟩, ⟨(some 9), none, (.bin .rem (.t 8) (.c (.t (.int .i64 10))))⟩, ⟨(some 10), none, (.bin .add (.c (.t (.int .i64 48))) (.t 9))⟩, ⟨(some 11), none, (.convInt .u8 (.t 10))⟩, ⟨(some 12), none, (.lit none 1 1 [(.t (.int .u8 0))] [⟨0, (.t 11)⟩])⟩, ⟨(some 13), none, (.bytesStr (.t 12))⟩, ⟨(some 14), none, (.mv (.t 3))⟩, ⟨(some 15), none, (.bin .add (.t 13) (.t 14))⟩, ⟨(some 3), none, (.mv (.t 15))⟩]) (.ops [⟨(some 16), none, (.mv (.t 0))⟩, ⟨(some 17), none, (.bin .quo (.t 16) (.c (.t (.int .i64 10))))⟩, ⟨(some 0), none, (.mv (.t 17))⟩])))))) (.seq (.ops [⟨(some 18), none, (.mv (.t 3))⟩, ⟨(some 19), none, (.bin .add (.c (.t (.str [109]))) (.t 18))⟩, ⟨(some 2), none, (.mv (.t 19))⟩]) .ret)))))
theorem k_laws_markText : comp Try.prog 20 (Try.f87.body.getD .skip) = some c_laws_markText := by kernel_rfl

def digit (k : Nat) : UInt8 := UInt8.ofNat (IntKind.u8.wrap (IntKind.i64.wrap (48 + (k : Int).tmod 10))).toNat
def dec (k : Nat) (o : List UInt8) : List UInt8 := if h : k = 0 then o else dec (k / 10) (digit k :: o)
termination_by k
decreasing_by omega
def markTxt (k : Nat) : List UInt8 := 109 :: dec k []

theorem markText (k : Nat) (h1 : 1 ≤ k) (h2 : k < 2 ^ 62) (σ : Store) : ACalls Try.prog 87 [.t (.int .i64 k)] σ fun r σ' => r = .t (.str (markTxt k)) ∧ σ' = σ := by
  refine acalls_of Try.func87 (by decide +kernel) (code := Try.f87.body.getD .skip) (n := 20) (c := c_laws_markText) (rs := [(.tmp 2)]) rfl rfl k_laws_markText (by kernel_rfl) (by simp) (fun hσ => ?_)
  have hpos : decide ((k : Int) ≤ 0) = false := by simp; omega
  simp -implicitDefEqProofs only [c_laws_markText, hpos, S0, S1, S2, S3, S4, S5, S6, S7, S8, S9, S10, S11, S12, S13, S14, S15, S16, opv, opvs, eget, env0, setD, lenStr, lenSl, isNilP, isNilS, putAt, if_true, if_false, reduceCtorEq, Nat.reduceLeDiff, Nat.reduceEqDiff, Nat.reduceSub, Nat.reduceMul, Nat.reduceAdd]
  refine loop_by [0, 3] σ.length (fun n s' => ∃ j o, n = j ∧ j + o.length ≤ k ∧ dec j o = dec k [] ∧ s' = ⟨.go, [(0, .t (.int .i64 (j : Nat))), (3, .t (.str o))], σ⟩) k (cut_all (Nat.le_refl _)) ⟨k, [], rfl, by simp, rfl, ?_⟩ ?_
  · simp [St.cut, keep, eget]
  · rintro j s' ⟨_, o, rfl, hj, hd, rfl⟩
    simp -implicitDefEqProofs only [S0, S1, S2, S3, S4, S5, S6, S7, S8, S9, S10, S11, S12, S13, S14, S15, S16, opv, opvs, eget, env0, setD, lenStr, lenSl, isNilP, isNilS, putAt, if_true, if_false, reduceCtorEq, Nat.reduceLeDiff, Nat.reduceEqDiff, Nat.reduceSub, Nat.reduceMul, Nat.reduceAdd]
    refine cond_split (fun h => ?_) (fun h => ?_)
    · have hj0 : 0 < j := by simpa using h
      have hdec : dec j o = dec (j / 10) (digit j :: o) := by rw [dec]; simp [show ¬ j = 0 by omega]
      have hq : IntKind.i64.wrap ((j : Int).tdiv 10) = ((j / 10 : Nat) : Int) := by
        rw [show (j : Int).tdiv 10 = ((j / 10 : Nat) : Int) by rw [Int.tdiv_eq_ediv_of_nonneg (by omega)]; omega]
        exact IntWalk.i64_in _ (by omega)
      have hten : ((10 : Int) ≠ 0) = True := by simp
      have hlen : (((1 + o.length : Nat)) : Int) ≤ 9223372036854775807 := by omega
      simp -implicitDefEqProofs only [h, hten, S0, S1, S2, S3, S4, S5, S6, S7, S8, S9, S10, S11, S12, S13, S14, S15, S16, opv, opvs, eget, env0, setD, lenStr, lenSl, isNilP, isNilS, putAt, if_true, if_false, reduceCtorEq, Nat.reduceLeDiff, Nat.reduceEqDiff, Nat.reduceSub, Nat.reduceMul, Nat.reduceAdd]
      refine ⟨by omega, lit_rows ?_⟩
      simp -implicitDefEqProofs only [h, hten, q_rows_r, Option.map_some, hlen, hq, S0, S1, S2, S3, S4, S5, S6, S7, S8, S9, S10, S11, S12, S13, S14, S15, S16, opv, opvs, eget, env0, setD, lenStr, lenSl, isNilP, isNilS, putAt, if_true, if_false, reduceCtorEq, Nat.reduceLeDiff, Nat.reduceEqDiff, Nat.reduceSub, Nat.reduceMul, Nat.reduceAdd]
      refine ⟨cut_all (Nat.le_refl _), j / 10, by omega, j / 10, digit j :: o, rfl, by simp; omega, by rw [← hd, hdec], ?_⟩
      simp [St.cut, keep, eget, digit]
    · simp -implicitDefEqProofs only [h, S0, S1, S2, S3, S4, S5, S6, S7, S8, S9, S10, S11, S12, S13, S14, S15, S16, opv, opvs, eget, env0, setD, lenStr, lenSl, isNilP, isNilS, putAt, if_true, if_false, reduceCtorEq, Nat.reduceLeDiff, Nat.reduceEqDiff, Nat.reduceSub, Nat.reduceMul, Nat.reduceAdd]
      have hj0 : j = 0 := by
        have : ¬ (0 : Int) < j := by simpa using h
        omega
      subst hj0
      have ho : o = dec k [] := by rw [← hd, dec]; simp
      have hlen : (((1 + o.length : Nat)) : Int) ≤ 9223372036854775807 := by omega
      simp -implicitDefEqProofs only [hlen, S0, S1, S2, S3, S4, S5, S6, S7, S8, S9, S10, S11, S12, S13, S14, S15, S16, opv, opvs, eget, env0, setD, lenStr, lenSl, isNilP, isNilS, putAt, if_true, if_false, reduceCtorEq, Nat.reduceLeDiff, Nat.reduceEqDiff, Nat.reduceSub, Nat.reduceMul, Nat.reduceAdd]
      exact ret_same0 rfl ⟨by simp [mkRes, markTxt, ho], rfl⟩
theorem textOk : TextOk Try.prog markTxt 87 := fun k σ h1 h2 => markText k h1 (by omega) σ
end Go.Proofs.Ytabakekeicbpbaa.W

end


section
open Go Go.Ab
set_option maxHeartbeats 4000000
set_option maxRecDepth 20000
namespace Go.Proofs.Ytabakekeicbpbaa.W
def c_markIntS : C := (.seq (.ops [⟨(some 12), none, (.mv (.t 0))⟩, ⟨(some 13), none, (.mv (.t 5))⟩, ⟨(some 14), none, (.mv (.t 1))⟩, ⟨(some 15), none, (.indexAddr 1 (.t 12) (.t 13))⟩, ⟨none, none, (.store 1 (.t 15) (.t 14))⟩]) (.ops [⟨(some 16), none, (.mv (.t 1))⟩, ⟨(some 17), none, (.bin .add (.t 16) (.c (.t (.int .i64 1))))⟩, ⟨(some 1), none, (.mv (.t 17))⟩]))
theorem row_markIntS : RowMark Try.prog markTxt 1 c_markIntS [.int .i64] := by
  intro b Q e σ id len i rs row r ji k g0 g5 g1 hl hi hs hr hT hz hO hnd hk hlt hQ
  simp only [isL_cons, isL_nil, is_int] at hT
  obtain ⟨_, _, rfl, ⟨n0, rfl, b0⟩, rfl⟩ := hT
  have hm : T.mkL markTxt k [.int .i64 n0] = ([.int .i64 ((k : Nat) : Int)], (k + 1)) := by simp only [mkL_cons, mkL_nil, mkc_int, mkc_bool, mkc_str, Nat.add_assoc, Nat.reduceAdd]
  rw [hm] at hlt hQ
  simp only at hlt hQ
  clear hm
  obtain ⟨_, rfl, hO0⟩ := oc_int hO
  clear hO
  obtain ⟨rfl, rfl⟩ := oc_nil hO0
  have w0 : IntKind.i64.wrap (((k : Nat) : Int) + 1) = (((k + 1) : Nat) : Int) := i64_succ (k := k) (by omega)
  have hidl := (List.getElem?_eq_some_iff.1 hs).1
  have s0 : ∀ o, (σ.set id o)[id]? = some o := fun o => by simp [hidl]
  have rr : ∀ x, (rs.set i x)[i]? = some x := fun x => by simp [hl, hi]
  have hi' : ((i : Nat) : Int) < ((len : Nat) : Int) := by omega
  have three : ((3 : Int) ≠ 0) = True := by simp
  simp (maxSteps := 4000000) -implicitDefEqProofs only [c_markIntS, g0, g5, g1, hs, hr, hl, hi', nat_nn, s0, rr, three, Nat.zero_le, w0, S0, S1, S2, S3, S4, S5, S6, S7, S8, S9, S10, S11, S12, S13, S14, S15, S16, opv, opvs, eget, env0, setD, lenStr, lenSl, isNilP, isNilS, putAt, if_true, if_false, reduceCtorEq, Nat.reduceLeDiff, Nat.reduceEqDiff, Nat.reduceSub, Nat.reduceMul, Nat.reduceAdd]
  refine hQ _ _ [.t (.int .i64 ((k : Nat) : Int))] ?_ ?_ ?_ ?_ ?_ ?_ ?_
  · simp (maxSteps := 4000000) -implicitDefEqProofs only [g0, g5, g1, S0, S1, S2, S3, S4, S5, S6, S7, S8, S9, S10, S11, S12, S13, S14, S15, S16, opv, opvs, eget, env0, setD, lenStr, lenSl, isNilP, isNilS, putAt, if_true, if_false, reduceCtorEq, Nat.reduceLeDiff, Nat.reduceEqDiff, Nat.reduceSub, Nat.reduceMul, Nat.reduceAdd]
  · simp (maxSteps := 4000000) -implicitDefEqProofs only [g0, g5, g1, S0, S1, S2, S3, S4, S5, S6, S7, S8, S9, S10, S11, S12, S13, S14, S15, S16, opv, opvs, eget, env0, setD, lenStr, lenSl, isNilP, isNilS, putAt, if_true, if_false, reduceCtorEq, Nat.reduceLeDiff, Nat.reduceEqDiff, Nat.reduceSub, Nat.reduceMul, Nat.reduceAdd]
  · simp (maxSteps := 4000000) -implicitDefEqProofs only [g0, g5, g1, S0, S1, S2, S3, S4, S5, S6, S7, S8, S9, S10, S11, S12, S13, S14, S15, S16, opv, opvs, eget, env0, setD, lenStr, lenSl, isNilP, isNilS, putAt, if_true, if_false, reduceCtorEq, Nat.reduceLeDiff, Nat.reduceEqDiff, Nat.reduceSub, Nat.reduceMul, Nat.reduceAdd]
  · exact s0 _
  · exact (OwnL.int OwnL.nil0)
  · simp only [List.length_set]
    omega
  · intro j hj hn
    simp only [List.mem_cons, List.mem_append, List.not_mem_nil, not_or, not_false_eq_true, and_true] at hn
    rw [List.getElem?_set_ne (fun e => hn e.symm)]
theorem i_markIntS : Is Try.prog 31 19 [(.tmp 4)] (tMarkS 18 c_markIntS) := ⟨_, _, Try.func31, by decide +kernel, rfl, rfl, by kernel_rfl, rfl⟩
theorem markIntS : MarkOk Try.prog markTxt 31 (.sl 1 [.int .i64]) := markS_ok rfl (by decide) (by decide) i_markIntS row_markIntS
def c_heldIntS : C := (.seq (.seq (.ops [⟨(some 12), none, (.mv (.t 0))⟩, ⟨(some 13), none, (.mv (.t 5))⟩, ⟨(some 14), none, (.indexAddr 1 (.t 12) (.t 13))⟩, ⟨(some 15), none, (.load none (.t 14))⟩, ⟨(some 16), none, (.mv (.t 1))⟩, ⟨(some 17), none, (.bin .neq (.t 15) (.t 16))⟩]) (.cond (.t 17) (.seq (.ops [⟨(some 4), none, (.mv (.c (.t (.int .i64 (-1)))))⟩]) .ret) .skip)) (.ops [⟨(some 18), none, (.mv (.t 1))⟩, ⟨(some 19), none, (.bin .add (.t 18) (.c (.t (.int .i64 1))))⟩, ⟨(some 1), none, (.mv (.t 19))⟩]))
theorem row_heldIntS : RowHeld Try.prog markTxt 1 c_heldIntS [.int .i64] := by
  intro b Q e σ i rows row k g0 g5 g1 hr hT hz hk hlt hQ
  simp only [isL_cons, isL_nil, is_int] at hT
  obtain ⟨_, _, rfl, ⟨n0, rfl, b0⟩, rfl⟩ := hT
  have hm : T.mkL markTxt k [.int .i64 n0] = ([.int .i64 ((k : Nat) : Int)], (k + 1)) := by simp only [mkL_cons, mkL_nil, mkc_int, mkc_bool, mkc_str, Nat.add_assoc, Nat.reduceAdd]
  rw [hm] at hlt hQ hr
  simp only at hlt hQ hr
  clear hm
  have w0 : IntKind.i64.wrap (((k : Nat) : Int) + 1) = (((k + 1) : Nat) : Int) := i64_succ (k := k) (by omega)
  have three : ((3 : Int) ≠ 0) = True := by simp
  simp (maxSteps := 4000000) -implicitDefEqProofs only [c_heldIntS, g0, g5, g1, hr, nat_nn, three, nat_neg, ne_self, beq_self_eq_true, Nat.zero_le, w0, S0, S1, S2, S3, S4, S5, S6, S7, S8, S9, S10, S11, S12, S13, S14, S15, S16, opv, opvs, eget, env0, setD, lenStr, lenSl, isNilP, isNilS, putAt, if_true, if_false, reduceCtorEq, Nat.reduceLeDiff, Nat.reduceEqDiff, Nat.reduceSub, Nat.reduceMul, Nat.reduceAdd]
  refine hQ _ ?_ ?_ ?_ <;> simp (maxSteps := 4000000) -implicitDefEqProofs only [g0, g5, g1, S0, S1, S2, S3, S4, S5, S6, S7, S8, S9, S10, S11, S12, S13, S14, S15, S16, opv, opvs, eget, env0, setD, lenStr, lenSl, isNilP, isNilS, putAt, if_true, if_false, reduceCtorEq, Nat.reduceLeDiff, Nat.reduceEqDiff, Nat.reduceSub, Nat.reduceMul, Nat.reduceAdd]
theorem i_heldIntS : Is Try.prog 32 21 [(.tmp 4)] (tMarkS 20 c_heldIntS) := ⟨_, _, Try.func32, by decide +kernel, rfl, rfl, by kernel_rfl, rfl⟩
theorem heldIntS : HeldOk Try.prog markTxt 32 (.sl 1 [.int .i64]) := heldS_ok rfl (by decide) (by decide) i_heldIntS row_heldIntS
def c_markStewServiceS : C := (.seq (.ops [⟨(some 12), none, (.mv (.t 0))⟩, ⟨(some 13), none, (.mv (.t 5))⟩, ⟨(some 14), none, (.mv (.t 1))⟩, ⟨(some 15), none, (.call (.c (.fn (.func 87) [])) [(.t 14)])⟩, ⟨(some 16), none, (.indexAddr 13 (.t 12) (.t 13))⟩, ⟨(some 17), none, (.fieldAddr 0 (.t 16))⟩, ⟨none, none, (.store 1 (.t 17) (.t 15))⟩]) (.seq (.ops [⟨(some 18), none, (.mv (.t 1))⟩, ⟨(some 19), none, (.bin .add (.t 18) (.c (.t (.int .i64 1))))⟩, ⟨(some 1), none, (.mv (.t 19))⟩]) (.seq (.ops [⟨(some 20), none, (.mv (.t 0))⟩, ⟨(some 21), none, (.mv (.t 5))⟩, ⟨(some 22), none, (.mv (.t 1))⟩, ⟨(some 23), none, (.indexAddr 13 (.t 20) (.t 21))⟩, ⟨(some 24), none, (.fieldAddr 1 (.t 23))⟩, ⟨none, none, (.store 1 (.t 24) (.t 22))⟩]) (.seq (.ops [⟨(some 25), none, (.mv (.t 1))⟩, ⟨(some 26), none, (.bin .add (.t 25) (.c (.t (.int .i64 1))))⟩, ⟨(some 1), none, (.mv (.t 26))⟩]) (.seq (.ops [⟨(some 27), none, (.mv (.t 0))⟩, ⟨(some 28), none, (.mv (.t 5))⟩, ⟨(some 29), none, (.mv (.t 1))⟩, ⟨(some 30), none, (.bin .rem (.t 29) (.c (.t (.int .i64 3))))⟩, ⟨(some 31), none, (.bin .eql (.t 30) (.c (.t (.int .i64 0))))⟩, ⟨(some 32), none, (.indexAddr 13 (.t 27) (.t 28))⟩, ⟨(some 33), none, (.fieldAddr 2 (.t 32))⟩, ⟨none, none, (.store 1 (.t 33) (.t 31))⟩]) (.seq (.ops [⟨(some 34), none, (.mv (.t 1))⟩, ⟨(some 35), none, (.bin .add (.t 34) (.c (.t (.int .i64 1))))⟩, ⟨(some 1), none, (.mv (.t 35))⟩]) (.seq (.ops [⟨(some 36), none, (.mv (.t 0))⟩, ⟨(some 37), none, (.mv (.t 5))⟩, ⟨(some 38), none, (.mv (.t 1))⟩, ⟨(some 39), none, (.indexAddr 13 (.t 36) (.t 37))⟩, ⟨(some 40), none, (.fieldAddr 3 (.t 39))⟩, ⟨none, none, (.store 1 (.t 40) (.t 38))⟩]) (.seq (.ops [⟨(some 41), none, (.mv (.t 1))⟩, ⟨(some 42), none, (.bin .add (.t 41) (.c (.t (.int .i64 1))))⟩, ⟨(some 1), none, (.mv (.t 42))⟩]) (.seq (.ops [⟨(some 43), none, (.mv (.t 0))⟩, ⟨(some 44), none, (.mv (.t 5))⟩, ⟨(some 45), none, (.mv (.t 1))⟩, ⟨(some 46), none, (.indexAddr 13 (.t 43) (.t 44))⟩, ⟨(some 47), none, (.fieldAddr 4 (.t 46))⟩, ⟨none, none, (.store 1 (.t 47) (.t 45))⟩]) (.seq (.ops [⟨(some 48), none, (.mv (.t 1))⟩, ⟨(some 49), none, (.bin .add (.t 48) (.c (.t (.int .i64 1))))⟩, ⟨(some 1), none, (.mv (.t 49))⟩]) (.seq (.ops [⟨(some 50), none, (.mv (.t 0))⟩, ⟨(some 51), none, (.mv (.t 5))⟩, ⟨(some 52), none, (.mv (.t 1))⟩, ⟨(some 53), none, (.indexAddr 13 (.t 50) (.t 51))⟩, ⟨(some 54), none, (.fieldAddr 5 (.t 53))⟩, ⟨none, none, (.store 1 (.t 54) (.t 52))⟩]) (.seq (.ops [⟨(some 55), none, (.mv (.t 1))⟩, ⟨(some 56), none, (.bin .add (.t 55) (.c (.t (.int .i64 1))))⟩, ⟨(some 1), none, (.mv (.t 56))⟩]) (.seq (.ops [⟨(some 57), none, (.mv (.t 0))⟩, ⟨(some 58), none, (.mv (.t 5))⟩, ⟨(some 59), none, (.mv (.t 1))⟩, ⟨(some 60), none, (.indexAddr 13 (.t 57) (.t 58))⟩, ⟨(some 61), none, (.fieldAddr 6 (.t 60))⟩, ⟨none, none, (.store 1 (.t 61) (.t 59))⟩]) (.seq (.ops [⟨(some 62), none, (.mv (.t 1))⟩, ⟨(some 63), none, (.bin .add (.t 62) (.c (.t (.int .i64 1))))⟩, ⟨(some 1), none, (.mv (.t 63))⟩]) (.seq (.ops [⟨(some 64), none, (.mv (.t 0))⟩, ⟨(some 65), none, (.mv (.t 5))⟩, ⟨(some 66), none, (.mv (.t 1))⟩, ⟨(some 67), none, (.indexAddr 13 (.t 64) (.t 65))⟩, ⟨(some 68), none, (.fieldAddr 7 (.t 67))⟩, ⟨none, none, (.store 1 (.t 68) (.t 66))⟩]) (.seq (.ops [⟨(some 69), none, (.mv (.t 1))⟩, ⟨(some 70), none, (.bin .add (.t 69) (.c (.t (.int .i64 1))))⟩, ⟨(some 1), none, (.mv (.t 70))⟩]) (.seq (.ops [⟨(some 71), none, (.mv (.t 0))⟩, ⟨(some 72), none, (.mv (.t 5))⟩, ⟨(some 73), none, (.mv (.t 1))⟩, ⟨(some 74), none, (.indexAddr 13 (.t 71) (.t 72))⟩, ⟨(some 75), none, (.fieldAddr 8 (.t 74))⟩, ⟨none, none, (.store 1 (.t 75) (.t 73))⟩]) (.seq (.ops [⟨(some 76), none, (.mv (.t 1))⟩, ⟨(some 77), none, (.bin .add (.t 76) (.c (.t (.int .i64 1))))⟩, ⟨(some 1), none, (.mv (.t 77))⟩]) (.seq (.ops [⟨(some 78), none, (.mv (.t 0))⟩, ⟨(some 79), none, (.mv (.t 5))⟩, ⟨(some 80), none, (.mv (.t 1))⟩, ⟨(some 81), none, (.indexAddr 13 (.t 78) (.t 79))⟩, ⟨(some 82), none, (.fieldAddr 9 (.t 81))⟩, ⟨none, none, (.store 1 (.t 82) (.t 80))⟩]) (.seq (.ops [⟨(some 83), none, (.mv (.t 1))⟩, ⟨(some 84), none, (.bin .add (.t 83) (.c (.t (.int .i64 1))))⟩, ⟨(some 1), none, (.mv (.t 84))⟩]) (.seq (.ops [⟨(some 85), none, (.mv (.t 0))⟩, ⟨(some 86), none, (.mv (.t 5))⟩, ⟨(some 87), none, (.mv (.t 1))⟩, ⟨(some 88), none, (.indexAddr 13 (.t 85) (.t 86))⟩, ⟨(some 89), none, (.fieldAddr 10 (.t 88))⟩, ⟨none, none, (.store 1 (.t 89) (.t 87))⟩]) (.seq (.ops [⟨(some 90), none, (.mv (.t 1))⟩, ⟨(some 91), none, (.bin .add (.t 90) (.c (.t (.int .i64 1))))⟩, ⟨(some 1), none, (.mv (.t 91))⟩]) (.seq (.ops [⟨(some 92), none, (.mv (.t 0))⟩, ⟨(some 93), none, (.mv (.t 5))⟩, ⟨(some 94), none, (.mv (.t 1))⟩, ⟨(some 95), none, (.indexAddr 13 (.t 92) (.t 93))⟩, ⟨(some 96), none, (.fieldAddr 11 (.t 95))⟩, ⟨none, none, (.store 1 (.t 96) (.t 94))⟩]) (.seq (.ops [⟨(some 97), none, (.mv (.t 1))⟩, ⟨(some 98), none, (.bin .add (.t 97) (.c (.t (.int .i64 1))))⟩, ⟨(some 1), none, (.mv (.t 98))⟩]) (.seq (.ops [⟨(some 99), none, (.mv (.t 0))⟩, ⟨(some 100), none, (.mv (.t 5))⟩, ⟨(some 101), none, (.mv (.t 1))⟩, ⟨(some 102), none, (.indexAddr 13 (.t 99) (.t 100))⟩, ⟨(some 103), none, (.fieldAddr 12 (.t 102))⟩, ⟨none, none, (.store 1 (.t 103) (.t 101))⟩]) (.ops [⟨(some 104), none, (.mv (.t 1))⟩, ⟨(some 105), none, (.bin .add (.t 104) (.c (.t (.int .i64 1))))⟩, ⟨(some 1), none, (.mv (.t 105))⟩]))))))))))))))))))))))))))
theorem row_markStewServiceS : RowMark Try.prog markTxt 13 c_markStewServiceS shStewService := by
  intro b Q e σ id len i rs row r ji k g0 g5 g1 hl hi hs hr hT hz hO hnd hk hlt hQ
  obtain ⟨n0, n1, n2, n3, n4, n5, n6, n7, n8, n9, n10, n11, n12, rfl, b0, b1, b3, b4, b5, b6, b7, b8, b9, b10, b11, b12⟩ := isStewService hT
  rw [sizeStewService] at hz
  have hm : T.mkL markTxt k [.str n0, .int .i64 n1, .bool n2, .int .i64 n3, .int .i64 n4, .int .i64 n5, .int .i64 n6, .int .i64 n7, .int .i64 n8, .int .i64 n9, .int .i64 n10, .int .i64 n11, .int .i64 n12] = ([.str (markTxt k), .int .i64 (((k + 1) : Nat) : Int), .bool ((((k + 2) : Nat) : Int).tmod 3 == 0), .int .i64 (((k + 3) : Nat) : Int), .int .i64 (((k + 4) : Nat) : Int), .int .i64 (((k + 5) : Nat) : Int), .int .i64 (((k + 6) : Nat) : Int), .int .i64 (((k + 7) : Nat) : Int), .int .i64 (((k + 8) : Nat) : Int), .int .i64 (((k + 9) : Nat) : Int), .int .i64 (((k + 10) : Nat) : Int), .int .i64 (((k + 11) : Nat) : Int), .int .i64 (((k + 12) : Nat) : Int)], (k + 13)) := by simp only [mkL_cons, mkL_nil, mkc_int, mkc_bool, mkc_str, Nat.add_assoc, Nat.reduceAdd]
  rw [hm] at hlt hQ
  simp only at hlt hQ
  clear hm
  obtain ⟨_, rfl, hO0⟩ := oc_str hO
  clear hO
  obtain ⟨_, rfl, hO1⟩ := oc_int hO0
  clear hO0
  obtain ⟨_, rfl, hO2⟩ := oc_bool hO1
  clear hO1
  obtain ⟨_, rfl, hO3⟩ := oc_int hO2
  clear hO2
  obtain ⟨_, rfl, hO4⟩ := oc_int hO3
  clear hO3
  obtain ⟨_, rfl, hO5⟩ := oc_int hO4
  clear hO4
  obtain ⟨_, rfl, hO6⟩ := oc_int hO5
  clear hO5
  obtain ⟨_, rfl, hO7⟩ := oc_int hO6
  clear hO6
  obtain ⟨_, rfl, hO8⟩ := oc_int hO7
  clear hO7
  obtain ⟨_, rfl, hO9⟩ := oc_int hO8
  clear hO8
  obtain ⟨_, rfl, hO10⟩ := oc_int hO9
  clear hO9
  obtain ⟨_, rfl, hO11⟩ := oc_int hO10
  clear hO10
  obtain ⟨_, rfl, hO12⟩ := oc_int hO11
  clear hO11
  obtain ⟨rfl, rfl⟩ := oc_nil hO12
  have w0 : IntKind.i64.wrap (((k : Nat) : Int) + 1) = (((k + 1) : Nat) : Int) := i64_succ (k := k) (by omega)
  have w1 : IntKind.i64.wrap ((((k + 1) : Nat) : Int) + 1) = (((k + 2) : Nat) : Int) := i64_succ (k := (k + 1)) (by omega)
  have w2 : IntKind.i64.wrap ((((k + 2) : Nat) : Int) + 1) = (((k + 3) : Nat) : Int) := i64_succ (k := (k + 2)) (by omega)
  have w3 : IntKind.i64.wrap ((((k + 3) : Nat) : Int) + 1) = (((k + 4) : Nat) : Int) := i64_succ (k := (k + 3)) (by omega)
  have w4 : IntKind.i64.wrap ((((k + 4) : Nat) : Int) + 1) = (((k + 5) : Nat) : Int) := i64_succ (k := (k + 4)) (by omega)
  have w5 : IntKind.i64.wrap ((((k + 5) : Nat) : Int) + 1) = (((k + 6) : Nat) : Int) := i64_succ (k := (k + 5)) (by omega)
  have w6 : IntKind.i64.wrap ((((k + 6) : Nat) : Int) + 1) = (((k + 7) : Nat) : Int) := i64_succ (k := (k + 6)) (by omega)
  have w7 : IntKind.i64.wrap ((((k + 7) : Nat) : Int) + 1) = (((k + 8) : Nat) : Int) := i64_succ (k := (k + 7)) (by omega)
  have w8 : IntKind.i64.wrap ((((k + 8) : Nat) : Int) + 1) = (((k + 9) : Nat) : Int) := i64_succ (k := (k + 8)) (by omega)
  have w9 : IntKind.i64.wrap ((((k + 9) : Nat) : Int) + 1) = (((k + 10) : Nat) : Int) := i64_succ (k := (k + 9)) (by omega)
  have w10 : IntKind.i64.wrap ((((k + 10) : Nat) : Int) + 1) = (((k + 11) : Nat) : Int) := i64_succ (k := (k + 10)) (by omega)
  have w11 : IntKind.i64.wrap ((((k + 11) : Nat) : Int) + 1) = (((k + 12) : Nat) : Int) := i64_succ (k := (k + 11)) (by omega)
  have w12 : IntKind.i64.wrap ((((k + 12) : Nat) : Int) + 1) = (((k + 13) : Nat) : Int) := i64_succ (k := (k + 12)) (by omega)
  have hidl := (List.getElem?_eq_some_iff.1 hs).1
  have s0 : ∀ o, (σ.set id o)[id]? = some o := fun o => by simp [hidl]
  have rr : ∀ x, (rs.set i x)[i]? = some x := fun x => by simp [hl, hi]
  have hi' : ((i : Nat) : Int) < ((len : Nat) : Int) := by omega
  have three : ((3 : Int) ≠ 0) = True := by simp
  simp (maxSteps := 4000000) -implicitDefEqProofs only [c_markStewServiceS, g0, g5, g1, hs, hr, hl, hi', nat_nn, s0, rr, three, Nat.zero_le, w0, w1, w2, w3, w4, w5, w6, w7, w8, w9, w10, w11, w12, S0, S1, S2, S3, S4, S5, S6, S7, S8, S9, S10, S11, S12, S13, S14, S15, S16, opv, opvs, eget, env0, setD, lenStr, lenSl, isNilP, isNilS, putAt, if_true, if_false, reduceCtorEq, Nat.reduceLeDiff, Nat.reduceEqDiff, Nat.reduceSub, Nat.reduceMul, Nat.reduceAdd]
  refine call_pure (textOk k _ (by omega) (by omega)) ?_
  simp (maxSteps := 4000000) -implicitDefEqProofs only [g0, g5, g1, hs, hr, hl, hi', nat_nn, s0, rr, three, Nat.zero_le, w0, w1, w2, w3, w4, w5, w6, w7, w8, w9, w10, w11, w12, S0, S1, S2, S3, S4, S5, S6, S7, S8, S9, S10, S11, S12, S13, S14, S15, S16, opv, opvs, eget, env0, setD, lenStr, lenSl, isNilP, isNilS, putAt, if_true, if_false, reduceCtorEq, Nat.reduceLeDiff, Nat.reduceEqDiff, Nat.reduceSub, Nat.reduceMul, Nat.reduceAdd]
  refine hQ _ _ [.t (.str (markTxt k)), .t (.int .i64 (((k + 1) : Nat) : Int)), .t (.bool ((((k + 2) : Nat) : Int).tmod 3 == 0)), .t (.int .i64 (((k + 3) : Nat) : Int)), .t (.int .i64 (((k + 4) : Nat) : Int)), .t (.int .i64 (((k + 5) : Nat) : Int)), .t (.int .i64 (((k + 6) : Nat) : Int)), .t (.int .i64 (((k + 7) : Nat) : Int)), .t (.int .i64 (((k + 8) : Nat) : Int)), .t (.int .i64 (((k + 9) : Nat) : Int)), .t (.int .i64 (((k + 10) : Nat) : Int)), .t (.int .i64 (((k + 11) : Nat) : Int)), .t (.int .i64 (((k + 12) : Nat) : Int))] ?_ ?_ ?_ ?_ ?_ ?_ ?_
  · simp (maxSteps := 4000000) -implicitDefEqProofs only [g0, g5, g1, S0, S1, S2, S3, S4, S5, S6, S7, S8, S9, S10, S11, S12, S13, S14, S15, S16, opv, opvs, eget, env0, setD, lenStr, lenSl, isNilP, isNilS, putAt, if_true, if_false, reduceCtorEq, Nat.reduceLeDiff, Nat.reduceEqDiff, Nat.reduceSub, Nat.reduceMul, Nat.reduceAdd]
  · simp (maxSteps := 4000000) -implicitDefEqProofs only [g0, g5, g1, S0, S1, S2, S3, S4, S5, S6, S7, S8, S9, S10, S11, S12, S13, S14, S15, S16, opv, opvs, eget, env0, setD, lenStr, lenSl, isNilP, isNilS, putAt, if_true, if_false, reduceCtorEq, Nat.reduceLeDiff, Nat.reduceEqDiff, Nat.reduceSub, Nat.reduceMul, Nat.reduceAdd]
  · simp (maxSteps := 4000000) -implicitDefEqProofs only [g0, g5, g1, S0, S1, S2, S3, S4, S5, S6, S7, S8, S9, S10, S11, S12, S13, S14, S15, S16, opv, opvs, eget, env0, setD, lenStr, lenSl, isNilP, isNilS, putAt, if_true, if_false, reduceCtorEq, Nat.reduceLeDiff, Nat.reduceEqDiff, Nat.reduceSub, Nat.reduceMul, Nat.reduceAdd]
  · exact s0 _
  · exact (OwnL.str (OwnL.int (OwnL.bool (OwnL.int (OwnL.int (OwnL.int (OwnL.int (OwnL.int (OwnL.int (OwnL.int (OwnL.int (OwnL.int (OwnL.int OwnL.nil0)))))))))))))
  · simp only [List.length_set]
    omega
  · intro j hj hn
    simp only [List.mem_cons, List.mem_append, List.not_mem_nil, not_or, not_false_eq_true, and_true] at hn
    rw [List.getElem?_set_ne (fun e => hn e.symm)]
theorem i_markStewServiceS : Is Try.prog 68 107 [(.tmp 4)] (tMarkS 106 c_markStewServiceS) := ⟨_, _, Try.func68, by decide +kernel, rfl, rfl, by kernel_rfl, rfl⟩
theorem markStewServiceS : MarkOk Try.prog markTxt 68 (.sl 13 shStewService) := markS_ok rfl (by decide) (by decide) i_markStewServiceS row_markStewServiceS
def c_markStewCopyS : C := (.seq (.ops [⟨(some 12), none, (.mv (.t 0))⟩, ⟨(some 13), none, (.mv (.t 5))⟩, ⟨(some 14), none, (.mv (.t 1))⟩, ⟨(some 15), none, (.call (.c (.fn (.func 87) [])) [(.t 14)])⟩, ⟨(some 16), none, (.indexAddr 7 (.t 12) (.t 13))⟩, ⟨(some 17), none, (.fieldAddr 0 (.t 16))⟩, ⟨none, none, (.store 1 (.t 17) (.t 15))⟩]) (.seq (.ops [⟨(some 18), none, (.mv (.t 1))⟩, ⟨(some 19), none, (.bin .add (.t 18) (.c (.t (.int .i64 1))))⟩, ⟨(some 1), none, (.mv (.t 19))⟩]) (.seq (.ops [⟨(some 20), none, (.mv (.t 0))⟩, ⟨(some 21), none, (.mv (.t 5))⟩, ⟨(some 22), none, (.mv (.t 1))⟩, ⟨(some 23), none, (.indexAddr 7 (.t 20) (.t 21))⟩, ⟨(some 24), none, (.fieldAddr 1 (.t 23))⟩, ⟨none, none, (.store 1 (.t 24) (.t 22))⟩]) (.seq (.ops [⟨(some 25), none, (.mv (.t 1))⟩, ⟨(some 26), none, (.bin .add (.t 25) (.c (.t (.int .i64 1))))⟩, ⟨(some 1), none, (.mv (.t 26))⟩]) (.seq (.ops [⟨(some 27), none, (.mv (.t 0))⟩, ⟨(some 28), none, (.mv (.t 5))⟩, ⟨(some 29), none, (.mv (.t 1))⟩, ⟨(some 30), none, (.indexAddr 7 (.t 27) (.t 28))⟩, ⟨(some 31), none, (.fieldAddr 2 (.t 30))⟩, ⟨none, none, (.store 1 (.t 31) (.t 29))⟩]) (.seq (.ops [⟨(some 32), none, (.mv (.t 1))⟩, ⟨(some 33), none, (.bin .add (.t 32) (.c (.t (.int .i64 1))))⟩, ⟨(some 1), none, (.mv (.t 33))⟩]) (.seq (.ops [⟨(some 34), none, (.mv (.t 0))⟩, ⟨(some 35), none, (.mv (.t 5))⟩, ⟨(some 36), none, (.mv (.t 1))⟩, ⟨(some 37), none, (.indexAddr 7 (.t 34) (.t 35))⟩, ⟨(some 38), none, (.fieldAddr 3 (.t 37))⟩, ⟨none, none, (.store 1 (.t 38) (.t 36))⟩]) (.seq (.ops [⟨(some 39), none, (.mv (.t 1))⟩, ⟨(some 40), none, (.bin .add (.t 39) (.c (.t (.int .i64 1))))⟩, ⟨(some 1), none, (.mv (.t 40))⟩]) (.seq (.ops [⟨(some 41), none, (.mv (.t 0))⟩, ⟨(some 42), none, (.mv (.t 5))⟩, ⟨(some 43), none, (.mv (.t 1))⟩, ⟨(some 44), none, (.indexAddr 7 (.t 41) (.t 42))⟩, ⟨(some 45), none, (.fieldAddr 4 (.t 44))⟩, ⟨none, none, (.store 1 (.t 45) (.t 43))⟩]) (.seq (.ops [⟨(some 46), none, (.mv (.t 1))⟩, ⟨(some 47), none, (.bin .add (.t 46) (.c (.t (.int .i64 1))))⟩, ⟨(some 1), none, (.mv (.t 47))⟩]) (.seq (.ops [⟨(some 48), none, (.mv (.t 0))⟩, ⟨(some 49), none, (.mv (.t 5))⟩, ⟨(some 50), none, (.mv (.t 1))⟩, ⟨(some 51), none, (.bin .rem (.t 50) (.c (.t (.int .i64 3))))⟩, ⟨(some 52), none, (.bin .eql (.t 51) (.c (.t (.int .i64 0))))⟩, ⟨(some 53), none, (.indexAddr 7 (.t 48) (.t 49))⟩, ⟨(some 54), none, (.fieldAddr 5 (.t 53))⟩, ⟨none, none, (.store 1 (.t 54) (.t 52))⟩]) (.seq (.ops [⟨(some 55), none, (.mv (.t 1))⟩, ⟨(some 56), none, (.bin .add (.t 55) (.c (.t (.int .i64 1))))⟩, ⟨(some 1), none, (.mv (.t 56))⟩]) (.seq (.ops [⟨(some 57), none, (.mv (.t 0))⟩, ⟨(some 58), none, (.mv (.t 5))⟩, ⟨(some 59), none, (.mv (.t 1))⟩, ⟨(some 60), none, (.call (.c (.fn (.func 87) [])) [(.t 59)])⟩, ⟨(some 61), none, (.indexAddr 7 (.t 57) (.t 58))⟩, ⟨(some 62), none, (.fieldAddr 6 (.t 61))⟩, ⟨none, none, (.store 1 (.t 62) (.t 60))⟩]) (.ops [⟨(some 63), none, (.mv (.t 1))⟩, ⟨(some 64), none, (.bin .add (.t 63) (.c (.t (.int .i64 1))))⟩, ⟨(some 1), none, (.mv (.t 64))⟩]))))))))))))))
theorem row_markStewCopyS : RowMark Try.prog markTxt 7 c_markStewCopyS shStewCopy := by
  intro b Q e σ id len i rs row r ji k g0 g5 g1 hl hi hs hr hT hz hO hnd hk hlt hQ
  obtain ⟨n0, n1, n2, n3, n4, n5, n6, rfl, b0, b1, b2, b3, b4, b6⟩ := isStewCopy hT
  rw [sizeStewCopy] at hz
  have hm : T.mkL markTxt k [.str n0, .int .i64 n1, .int .i64 n2, .int .i64 n3, .int .i64 n4, .bool n5, .str n6] = ([.str (markTxt k), .int .i64 (((k + 1) : Nat) : Int), .int .i64 (((k + 2) : Nat) : Int), .int .i64 (((k + 3) : Nat) : Int), .int .i64 (((k + 4) : Nat) : Int), .bool ((((k + 5) : Nat) : Int).tmod 3 == 0), .str (markTxt (k + 6))], (k + 7)) := by simp only [mkL_cons, mkL_nil, mkc_int, mkc_bool, mkc_str, Nat.add_assoc, Nat.reduceAdd]
  rw [hm] at hlt hQ
  simp only at hlt hQ
  clear hm
  obtain ⟨_, rfl, hO0⟩ := oc_str hO
  clear hO
  obtain ⟨_, rfl, hO1⟩ := oc_int hO0
  clear hO0
  obtain ⟨_, rfl, hO2⟩ := oc_int hO1
  clear hO1
  obtain ⟨_, rfl, hO3⟩ := oc_int hO2
  clear hO2
  obtain ⟨_, rfl, hO4⟩ := oc_int hO3
  clear hO3
  obtain ⟨_, rfl, hO5⟩ := oc_bool hO4
  clear hO4
  obtain ⟨_, rfl, hO6⟩ := oc_str hO5
  clear hO5
  obtain ⟨rfl, rfl⟩ := oc_nil hO6
  have w0 : IntKind.i64.wrap (((k : Nat) : Int) + 1) = (((k + 1) : Nat) : Int) := i64_succ (k := k) (by omega)
  have w1 : IntKind.i64.wrap ((((k + 1) : Nat) : Int) + 1) = (((k + 2) : Nat) : Int) := i64_succ (k := (k + 1)) (by omega)
  have w2 : IntKind.i64.wrap ((((k + 2) : Nat) : Int) + 1) = (((k + 3) : Nat) : Int) := i64_succ (k := (k + 2)) (by omega)
  have w3 : IntKind.i64.wrap ((((k + 3) : Nat) : Int) + 1) = (((k + 4) : Nat) : Int) := i64_succ (k := (k + 3)) (by omega)
  have w4 : IntKind.i64.wrap ((((k + 4) : Nat) : Int) + 1) = (((k + 5) : Nat) : Int) := i64_succ (k := (k + 4)) (by omega)
  have w5 : IntKind.i64.wrap ((((k + 5) : Nat) : Int) + 1) = (((k + 6) : Nat) : Int) := i64_succ (k := (k + 5)) (by omega)
  have w6 : IntKind.i64.wrap ((((k + 6) : Nat) : Int) + 1) = (((k + 7) : Nat) : Int) := i64_succ (k := (k + 6)) (by omega)
  have hidl := (List.getElem?_eq_some_iff.1 hs).1
  have s0 : ∀ o, (σ.set id o)[id]? = some o := fun o => by simp [hidl]
  have rr : ∀ x, (rs.set i x)[i]? = some x := fun x => by simp [hl, hi]
  have hi' : ((i : Nat) : Int) < ((len : Nat) : Int) := by omega
  have three : ((3 : Int) ≠ 0) = True := by simp
  simp (maxSteps := 4000000) -implicitDefEqProofs only [c_markStewCopyS, g0, g5, g1, hs, hr, hl, hi', nat_nn, s0, rr, three, Nat.zero_le, w0, w1, w2, w3, w4, w5, w6, S0, S1, S2, S3, S4, S5, S6, S7, S8, S9, S10, S11, S12, S13, S14, S15, S16, opv, opvs, eget, env0, setD, lenStr, lenSl, isNilP, isNilS, putAt, if_true, if_false, reduceCtorEq, Nat.reduceLeDiff, Nat.reduceEqDiff, Nat.reduceSub, Nat.reduceMul, Nat.reduceAdd]
  refine call_pure (textOk k _ (by omega) (by omega)) ?_
  simp (maxSteps := 4000000) -implicitDefEqProofs only [g0, g5, g1, hs, hr, hl, hi', nat_nn, s0, rr, three, Nat.zero_le, w0, w1, w2, w3, w4, w5, w6, S0, S1, S2, S3, S4, S5, S6, S7, S8, S9, S10, S11, S12, S13, S14, S15, S16, opv, opvs, eget, env0, setD, lenStr, lenSl, isNilP, isNilS, putAt, if_true, if_false, reduceCtorEq, Nat.reduceLeDiff, Nat.reduceEqDiff, Nat.reduceSub, Nat.reduceMul, Nat.reduceAdd]
  refine call_pure (textOk (k + 6) _ (by omega) (by omega)) ?_
  simp (maxSteps := 4000000) -implicitDefEqProofs only [g0, g5, g1, hs, hr, hl, hi', nat_nn, s0, rr, three, Nat.zero_le, w0, w1, w2, w3, w4, w5, w6, S0, S1, S2, S3, S4, S5, S6, S7, S8, S9, S10, S11, S12, S13, S14, S15, S16, opv, opvs, eget, env0, setD, lenStr, lenSl, isNilP, isNilS, putAt, if_true, if_false, reduceCtorEq, Nat.reduceLeDiff, Nat.reduceEqDiff, Nat.reduceSub, Nat.reduceMul, Nat.reduceAdd]
  refine hQ _ _ [.t (.str (markTxt k)), .t (.int .i64 (((k + 1) : Nat) : Int)), .t (.int .i64 (((k + 2) : Nat) : Int)), .t (.int .i64 (((k + 3) : Nat) : Int)), .t (.int .i64 (((k + 4) : Nat) : Int)), .t (.bool ((((k + 5) : Nat) : Int).tmod 3 == 0)), .t (.str (markTxt (k + 6)))] ?_ ?_ ?_ ?_ ?_ ?_ ?_
  · simp (maxSteps := 4000000) -implicitDefEqProofs only [g0, g5, g1, S0, S1, S2, S3, S4, S5, S6, S7, S8, S9, S10, S11, S12, S13, S14, S15, S16, opv, opvs, eget, env0, setD, lenStr, lenSl, isNilP, isNilS, putAt, if_true, if_false, reduceCtorEq, Nat.reduceLeDiff, Nat.reduceEqDiff, Nat.reduceSub, Nat.reduceMul, Nat.reduceAdd]
  · simp (maxSteps := 4000000) -implicitDefEqProofs only [g0, g5, g1, S0, S1, S2, S3, S4, S5, S6, S7, S8, S9, S10, S11, S12, S13, S14, S15, S16, opv, opvs, eget, env0, setD, lenStr, lenSl, isNilP, isNilS, putAt, if_true, if_false, reduceCtorEq, Nat.reduceLeDiff, Nat.reduceEqDiff, Nat.reduceSub, Nat.reduceMul, Nat.reduceAdd]
  · simp (maxSteps := 4000000) -implicitDefEqProofs only [g0, g5, g1, S0, S1, S2, S3, S4, S5, S6, S7, S8, S9, S10, S11, S12, S13, S14, S15, S16, opv, opvs, eget, env0, setD, lenStr, lenSl, isNilP, isNilS, putAt, if_true, if_false, reduceCtorEq, Nat.reduceLeDiff, Nat.reduceEqDiff, Nat.reduceSub, Nat.reduceMul, Nat.reduceAdd]
  · exact s0 _
  · exact (OwnL.str (OwnL.int (OwnL.int (OwnL.int (OwnL.int (OwnL.bool (OwnL.str OwnL.nil0)))))))
  · simp only [List.length_set]
    omega
  · intro j hj hn
    simp only [List.mem_cons, List.mem_append, List.not_mem_nil, not_or, not_false_eq_true, and_true] at hn
    rw [List.getElem?_set_ne (fun e => hn e.symm)]
theorem i_markStewCopyS : Is Try.prog 69 66 [(.tmp 4)] (tMarkS 65 c_markStewCopyS) := ⟨_, _, Try.func69, by decide +kernel, rfl, rfl, by kernel_rfl, rfl⟩
theorem markStewCopyS : MarkOk Try.prog markTxt 69 (.sl 7 shStewCopy) := markS_ok rfl (by decide) (by decide) i_markStewCopyS row_markStewCopyS
def c_markStewBerthS : C := (.seq (.ops [⟨(some 12), none, (.mv (.t 0))⟩, ⟨(some 13), none, (.mv (.t 5))⟩, ⟨(some 14), none, (.mv (.t 1))⟩, ⟨(some 15), none, (.call (.c (.fn (.func 87) [])) [(.t 14)])⟩, ⟨(some 16), none, (.indexAddr 2 (.t 12) (.t 13))⟩, ⟨(some 17), none, (.fieldAddr 0 (.t 16))⟩, ⟨none, none, (.store 1 (.t 17) (.t 15))⟩]) (.seq (.ops [⟨(some 18), none, (.mv (.t 1))⟩, ⟨(some 19), none, (.bin .add (.t 18) (.c (.t (.int .i64 1))))⟩, ⟨(some 1), none, (.mv (.t 19))⟩]) (.seq (.ops [⟨(some 20), none, (.mv (.t 0))⟩, ⟨(some 21), none, (.mv (.t 5))⟩, ⟨(some 22), none, (.mv (.t 1))⟩, ⟨(some 23), none, (.bin .rem (.t 22) (.c (.t (.int .i64 3))))⟩, ⟨(some 24), none, (.bin .eql (.t 23) (.c (.t (.int .i64 0))))⟩, ⟨(some 25), none, (.indexAddr 2 (.t 20) (.t 21))⟩, ⟨(some 26), none, (.fieldAddr 1 (.t 25))⟩, ⟨none, none, (.store 1 (.t 26) (.t 24))⟩]) (.ops [⟨(some 27), none, (.mv (.t 1))⟩, ⟨(some 28), none, (.bin .add (.t 27) (.c (.t (.int .i64 1))))⟩, ⟨(some 1), none, (.mv (.t 28))⟩]))))
theorem row_markStewBerthS : RowMark Try.prog markTxt 2 c_markStewBerthS shStewBerth := by
  intro b Q e σ id len i rs row r ji k g0 g5 g1 hl hi hs hr hT hz hO hnd hk hlt hQ
  obtain ⟨n0, n1, rfl, b0⟩ := isStewBerth hT
  rw [sizeStewBerth] at hz
  have hm : T.mkL markTxt k [.str n0, .bool n1] = ([.str (markTxt k), .bool ((((k + 1) : Nat) : Int).tmod 3 == 0)], (k + 2)) := by simp only [mkL_cons, mkL_nil, mkc_int, mkc_bool, mkc_str, Nat.add_assoc, Nat.reduceAdd]
  rw [hm] at hlt hQ
  simp only at hlt hQ
  clear hm
  obtain ⟨_, rfl, hO0⟩ := oc_str hO
  clear hO
  obtain ⟨_, rfl, hO1⟩ := oc_bool hO0
  clear hO0
  obtain ⟨rfl, rfl⟩ := oc_nil hO1
  have w0 : IntKind.i64.wrap (((k : Nat) : Int) + 1) = (((k + 1) : Nat) : Int) := i64_succ (k := k) (by omega)
  have w1 : IntKind.i64.wrap ((((k + 1) : Nat) : Int) + 1) = (((k + 2) : Nat) : Int) := i64_succ (k := (k + 1)) (by omega)
  have hidl := (List.getElem?_eq_some_iff.1 hs).1
  have s0 : ∀ o, (σ.set id o)[id]? = some o := fun o => by simp [hidl]
  have rr : ∀ x, (rs.set i x)[i]? = some x := fun x => by simp [hl, hi]
  have hi' : ((i : Nat) : Int) < ((len : Nat) : Int) := by omega
  have three : ((3 : Int) ≠ 0) = True := by simp
  simp (maxSteps := 4000000) -implicitDefEqProofs only [c_markStewBerthS, g0, g5, g1, hs, hr, hl, hi', nat_nn, s0, rr, three, Nat.zero_le, w0, w1, S0, S1, S2, S3, S4, S5, S6, S7, S8, S9, S10, S11, S12, S13, S14, S15, S16, opv, opvs, eget, env0, setD, lenStr, lenSl, isNilP, isNilS, putAt, if_true, if_false, reduceCtorEq, Nat.reduceLeDiff, Nat.reduceEqDiff, Nat.reduceSub, Nat.reduceMul, Nat.reduceAdd]
  refine call_pure (textOk k _ (by omega) (by omega)) ?_
  simp (maxSteps := 4000000) -implicitDefEqProofs only [g0, g5, g1, hs, hr, hl, hi', nat_nn, s0, rr, three, Nat.zero_le, w0, w1, S0, S1, S2, S3, S4, S5, S6, S7, S8, S9, S10, S11, S12, S13, S14, S15, S16, opv, opvs, eget, env0, setD, lenStr, lenSl, isNilP, isNilS, putAt, if_true, if_false, reduceCtorEq, Nat.reduceLeDiff, Nat.reduceEqDiff, Nat.reduceSub, Nat.reduceMul, Nat.reduceAdd]
  refine hQ _ _ [.t (.str (markTxt k)), .t (.bool ((((k + 1) : Nat) : Int).tmod 3 == 0))] ?_ ?_ ?_ ?_ ?_ ?_ ?_
  · simp (maxSteps := 4000000) -implicitDefEqProofs only [g0, g5, g1, S0, S1, S2, S3, S4, S5, S6, S7, S8, S9, S10, S11, S12, S13, S14, S15, S16, opv, opvs, eget, env0, setD, lenStr, lenSl, isNilP, isNilS, putAt, if_true, if_false, reduceCtorEq, Nat.reduceLeDiff, Nat.reduceEqDiff, Nat.reduceSub, Nat.reduceMul, Nat.reduceAdd]
  · simp (maxSteps := 4000000) -implicitDefEqProofs only [g0, g5, g1, S0, S1, S2, S3, S4, S5, S6, S7, S8, S9, S10, S11, S12, S13, S14, S15, S16, opv, opvs, eget, env0, setD, lenStr, lenSl, isNilP, isNilS, putAt, if_true, if_false, reduceCtorEq, Nat.reduceLeDiff, Nat.reduceEqDiff, Nat.reduceSub, Nat.reduceMul, Nat.reduceAdd]
  · simp (maxSteps := 4000000) -implicitDefEqProofs only [g0, g5, g1, S0, S1, S2, S3, S4, S5, S6, S7, S8, S9, S10, S11, S12, S13, S14, S15, S16, opv, opvs, eget, env0, setD, lenStr, lenSl, isNilP, isNilS, putAt, if_true, if_false, reduceCtorEq, Nat.reduceLeDiff, Nat.reduceEqDiff, Nat.reduceSub, Nat.reduceMul, Nat.reduceAdd]
  · exact s0 _
  · exact (OwnL.str (OwnL.bool OwnL.nil0))
  · simp only [List.length_set]
    omega
  · intro j hj hn
    simp only [List.mem_cons, List.mem_append, List.not_mem_nil, not_or, not_false_eq_true, and_true] at hn
    rw [List.getElem?_set_ne (fun e => hn e.symm)]
theorem i_markStewBerthS : Is Try.prog 70 30 [(.tmp 4)] (tMarkS 29 c_markStewBerthS) := ⟨_, _, Try.func70, by decide +kernel, rfl, rfl, by kernel_rfl, rfl⟩
theorem markStewBerthS : MarkOk Try.prog markTxt 70 (.sl 2 shStewBerth) := markS_ok rfl (by decide) (by decide) i_markStewBerthS row_markStewBerthS
def c_laws_markStewBook : C := (.seq (.ops [⟨(some 2), none, (.box (.t 0))⟩, ⟨(some 4), none, (.mv (.c (.t (.int .i64 0))))⟩]) (.seq (.ops [⟨(some 5), none, (.fieldAddr 1 (.t 2))⟩, ⟨(some 6), none, (.load none (.t 5))⟩, ⟨(some 7), none, (.mv (.t 1))⟩, ⟨(some 8), none, (.call (.c (.fn (.func 68) [])) [(.t 6), (.t 7)])⟩, ⟨(some 1), none, (.mv (.t 8))⟩]) (.seq (.ops [⟨(some 9), none, (.fieldAddr 2 (.t 2))⟩, ⟨(some 10), none, (.load none (.t 9))⟩, ⟨(some 11), none, (.mv (.t 1))⟩, ⟨(some 12), none, (.call (.c (.fn (.func 69) [])) [(.t 10), (.t 11)])⟩, ⟨(some 1), none, (.mv (.t 12))⟩]) (.seq (.ops [⟨(some 13), none, (.fieldAddr 3 (.t 2))⟩, ⟨(some 14), none, (.load none (.t 13))⟩, ⟨(some 15), none, (.mv (.t 1))⟩, ⟨(some 16), none, (.call (.c (.fn (.func 70) [])) [(.t 14), (.t 15)])⟩, ⟨(some 1), none, (.mv (.t 16))⟩]) (.seq (.ops [⟨(some 17), none, (.mv (.t 1))⟩, ⟨(some 4), none, (.mv (.t 17))⟩]) .ret)))))
theorem k_laws_markStewBook : comp Try.prog 18 (Try.f30.body.getD .skip) = some c_laws_markStewBook := by kernel_rfl

theorem markStewBook : MarkLOk Try.prog markTxt 30 shStewBook := by
  rintro ts us is k σ hT hz hO hnd hk hlt
  obtain ⟨n0, n1, n2, n3, rfl, b0, b1, b2, b3⟩ := isStewBook hT
  rw [sizeStewBook] at hz
  have hm : T.mkVL markTxt k [.int .i64 n0, n1, n2, n3] = ([.int .i64 n0, (T.mk markTxt k n1).1, (T.mk markTxt (T.mk markTxt k n1).2 n2).1, (T.mk markTxt (T.mk markTxt (T.mk markTxt k n1).2 n2).2 n3).1], (T.mk markTxt (T.mk markTxt (T.mk markTxt k n1).2 n2).2 n3).2) := by simp only [mkVL_cons, mkVL_nil, mkV_int, mkV_bool, mkV_str, mkV_sl b1, mkV_sl b2, mkV_sl b3]
  rw [hm] at hlt ⊢
  simp only at hlt ⊢
  clear hm
  obtain ⟨_, rfl, hO0⟩ := oc_int hO
  clear hO
  obtain ⟨u1, _, j1, _, rfl, rfl, o1, hO1⟩ := oc_lst hO0
  clear hO0
  obtain ⟨u2, _, j2, _, rfl, rfl, o2, hO2⟩ := oc_lst hO1
  clear hO1
  obtain ⟨u3, _, j3, _, rfl, rfl, o3, hO3⟩ := oc_lst hO2
  clear hO2
  obtain ⟨rfl, rfl⟩ := oc_nil hO3
  have l1 := mk_le (mt := markTxt) (k := k) (t := n1)
  have l2 := mk_le (mt := markTxt) (k := (T.mk markTxt k n1).2) (t := n2)
  have l3 := mk_le (mt := markTxt) (k := (T.mk markTxt (T.mk markTxt k n1).2 n2).2) (t := n3)
  refine acalls_of Try.func30 (by decide +kernel) (code := Try.f30.body.getD .skip) (n := 18) (c := c_laws_markStewBook) (rs := [(.tmp 4)]) rfl rfl k_laws_markStewBook (by kernel_rfl) (by simp) (fun hσ => ?_)
  obtain ⟨nd1, rest1, dj1, dk1⟩ := nd_app hnd
  obtain ⟨nd2, rest2, dj2, dk2⟩ := nd_app rest1
  obtain ⟨nd3, rest3, dj3, dk3⟩ := nd_app rest2
  have U1 : Own σ n1 u1 j1 := o1
  have N1 := nd1
  have lt1 := U1.lt
  have U2 : Own σ n2 u2 j2 := o2
  have N2 := nd2
  have lt2 := U2.lt
  have U3 : Own σ n3 u3 j3 := o3
  have N3 := nd3
  have lt3 := U3.lt
  simp (maxSteps := 4000000) -implicitDefEqProofs only [c_laws_markStewBook, one_cells o1.one, o1.one, one_cells o2.one, o2.one, one_cells o3.one, o3.one, S0, S1, S2, S3, S4, S5, S6, S7, S8, S9, S10, S11, S12, S13, S14, S15, S16, opv, opvs, eget, env0, setD, lenStr, lenSl, isNilP, isNilS, putAt, if_true, if_false, reduceCtorEq, Nat.reduceLeDiff, Nat.reduceEqDiff, Nat.reduceSub, Nat.reduceMul, Nat.reduceAdd]
  refine call_by (by rw [List.append_nil]; exact markStewServiceS n1 u1 j1 k _ b1 (by omega) (U1.pre (List.prefix_append _ _)) N1 (by omega) (by omega)) ?_
  rintro r' σ1 ⟨rfl, q1, y1, f1⟩
  have eb1 := f1 σ.length (by first | simp | (simp only [List.length_append, List.length_cons, List.length_nil] at *; omega)) (fun h => Nat.lt_irrefl _ (lt1 _ h))
  rw [q_app_get0] at eb1
  simp only [List.getElem?_cons_zero] at eb1
  simp (maxSteps := 4000000) -implicitDefEqProofs only [eb1, one_cells o1.one, o1.one, one_cells o2.one, o2.one, one_cells o3.one, o3.one, S0, S1, S2, S3, S4, S5, S6, S7, S8, S9, S10, S11, S12, S13, S14, S15, S16, opv, opvs, eget, env0, setD, lenStr, lenSl, isNilP, isNilS, putAt, if_true, if_false, reduceCtorEq, Nat.reduceLeDiff, Nat.reduceEqDiff, Nat.reduceSub, Nat.reduceMul, Nat.reduceAdd]
  refine call_by (by rw [List.append_nil]; exact markStewCopyS n2 u2 j2 (T.mk markTxt k n1).2 _ b2 (by omega) ((U2.pre (List.prefix_append _ _)).other f1 (by intro x hx h; (try simp only [List.mem_append, List.not_mem_nil, or_false] at hx); (try simp only [List.mem_append, List.not_mem_nil, or_false] at h); exact dj1 x h (by simp [hx]))) N2 (by omega) (by omega)) ?_
  rintro r' σ2 ⟨rfl, q2, y2, f2⟩
  have eb2 := f2 σ.length (by first | simp | (simp only [List.length_append, List.length_cons, List.length_nil] at *; omega)) (fun h => Nat.lt_irrefl _ (lt2 _ h))
  rw [eb1] at eb2
  simp (maxSteps := 4000000) -implicitDefEqProofs only [eb2, eb1, one_cells o1.one, o1.one, one_cells o2.one, o2.one, one_cells o3.one, o3.one, S0, S1, S2, S3, S4, S5, S6, S7, S8, S9, S10, S11, S12, S13, S14, S15, S16, opv, opvs, eget, env0, setD, lenStr, lenSl, isNilP, isNilS, putAt, if_true, if_false, reduceCtorEq, Nat.reduceLeDiff, Nat.reduceEqDiff, Nat.reduceSub, Nat.reduceMul, Nat.reduceAdd]
  refine call_by (by rw [List.append_nil]; exact markStewBerthS n3 u3 j3 (T.mk markTxt (T.mk markTxt k n1).2 n2).2 _ b3 (by omega) (((U3.pre (List.prefix_append _ _)).other f1 (by intro x hx h; (try simp only [List.mem_append, List.not_mem_nil, or_false] at hx); (try simp only [List.mem_append, List.not_mem_nil, or_false] at h); exact dj1 x h (by simp [hx]))).other f2 (by intro x hx h; (try simp only [List.mem_append, List.not_mem_nil, or_false] at hx); (try simp only [List.mem_append, List.not_mem_nil, or_false] at h); exact dj2 x h (by simp [hx]))) N3 (by omega) (by omega)) ?_
  rintro r' σ3 ⟨rfl, q3, y3, f3⟩
  have eb3 := f3 σ.length (by first | simp | (simp only [List.length_append, List.length_cons, List.length_nil] at *; omega)) (fun h => Nat.lt_irrefl _ (lt3 _ h))
  rw [eb2] at eb3
  simp (maxSteps := 4000000) -implicitDefEqProofs only [eb3, eb2, eb1, one_cells o1.one, o1.one, one_cells o2.one, o2.one, one_cells o3.one, o3.one, S0, S1, S2, S3, S4, S5, S6, S7, S8, S9, S10, S11, S12, S13, S14, S15, S16, opv, opvs, eget, env0, setD, lenStr, lenSl, isNilP, isNilS, putAt, if_true, if_false, reduceCtorEq, Nat.reduceLeDiff, Nat.reduceEqDiff, Nat.reduceSub, Nat.reduceMul, Nat.reduceAdd]
  have hf : OwnL _ [.int .i64 n0, (T.mk markTxt k n1).1, (T.mk markTxt (T.mk markTxt k n1).2 n2).1, (T.mk markTxt (T.mk markTxt (T.mk markTxt k n1).2 n2).2 n3).1] [.t (.int .i64 n0), u1, u2, u3] _ := (OwnL.int (OwnL.lst ((q1.other f2 (by intro x hx h; (try simp only [List.mem_append, List.not_mem_nil, or_false] at hx); (try simp only [List.mem_append, List.not_mem_nil, or_false] at h); exact dj1 x hx (by simp [h]))).other f3 (by intro x hx h; (try simp only [List.mem_append, List.not_mem_nil, or_false] at hx); (try simp only [List.mem_append, List.not_mem_nil, or_false] at h); exact dj1 x hx (by simp [h]))) (OwnL.lst (q2.other f3 (by intro x hx h; (try simp only [List.mem_append, List.not_mem_nil, or_false] at hx); (try simp only [List.mem_append, List.not_mem_nil, or_false] at h); exact dj2 x hx (by simp [h]))) (OwnL.lst q3 OwnL.nil0))))
  try simp only [List.append_assoc, List.append_nil, List.nil_append] at hf
  try simp only [List.append_assoc, List.append_nil, List.nil_append]
  simp only [List.length_append, List.length_cons, List.length_nil] at y1 y2 y3
  refine fin_keep (by omega) ⟨by simp [mkRes], hf, by omega, fun j hj hn => ?_⟩
  try simp only [List.mem_append, List.not_mem_nil, not_or, not_false_eq_true, and_true, or_false] at hn
  rw [f3 j (by first | omega | (simp only [List.length_append, List.length_cons, List.length_nil]; omega)) (by first | exact hn | simp [hn])]
  rw [f2 j (by first | omega | (simp only [List.length_append, List.length_cons, List.length_nil]; omega)) (by first | exact hn | simp [hn])]
  rw [f1 j (by first | omega | (simp only [List.length_append, List.length_cons, List.length_nil]; omega)) (by first | exact hn | simp [hn])]
  rw [List.getElem?_append_left hj]
end Go.Proofs.Ytabakekeicbpbaa.W

end
