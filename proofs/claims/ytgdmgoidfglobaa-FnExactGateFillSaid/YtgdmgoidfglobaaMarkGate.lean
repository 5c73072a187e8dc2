/- The marks' text. Conditions: none. -/
/- Marks and looks at them again, for these structs (printed by marks.py). Conditions: none. -/
import Derived.Test.YtgdmgoidfglobaaAb4
import Derived.IntWalk
import Derived.Test.YtgdmgoidfglobaaProg
import Derived.KernelRfl
import Derived.Test.YtgdmgoidfglobaaLawGate2
set_option linter.unusedSimpArgs false
set_option linter.unusedVariables false
set_option linter.defProp false

section
open Go Go.Ab
namespace Go.Proofs.Ytgdmgoidfglobaa.W
def c_laws_markText : C := (.seq (.ops [⟨(some 2), none, (.mv (.c (.t (.str []))))⟩]) (.seq (.seq (.ops [⟨(some 4), none, (.mv (.t 0))⟩, ⟨(some 5), none, (.bin .leq (.t 4) (.c (.t (.int .i64 0))))⟩]) (.cond (.t 5) (.seq (.ops [⟨(some 2), none, (.mv (.c (.t (.str [109, 48]))))⟩]) .ret) .skip)) (.seq (.ops [⟨(some 3), none, (.mv (.c (.t (.str []))))⟩]) (.seq (.block 0 (.loop (.seq (.seq (.ops [⟨(some 6), none, (.mv (.t 0))⟩, ⟨(some 7), none, (.bin .gtr (.t 6) (.c (.t (.int .i64 0))))⟩]) (.cond (.t 7) .skip (.exit 0))) (.block 1 (.seq (.ops [⟨(some 8), none, (.mv (.t 0))⟩, ⟨(some 9), none, (.bin .rem (.t 8) (.c (.t (.int .i64 10))))⟩, ⟨(some 10), none, (.bin .add (.c (.t (.int .i64 48))) (.t 9))⟩, ⟨(some 11), none, (.convInt .u8 (.t 10))⟩, ⟨(some 12), none, (.lit none 1 1 [(.t (.int .u8 0))] [⟨0, (.t 11)⟩])⟩, ⟨(some 13), none, (.bytesStr (.t 12))⟩, ⟨(some 14), none, (.mv (.t 3))⟩, ⟨(some 15), none, (.bin .add (.t 13) (.t 14))⟩, ⟨(some 3), none, (.mv (.t 15))⟩]) (.ops [⟨(some 16), none, (.mv (.t 0))⟩, ⟨(some 17), none, (.bin .quo (.t 16) (.c (.t (.int .i64 10))))⟩, ⟨(some 0), none, (.mv (.t 17))⟩])))))) (.seq (.ops [⟨(some 18), none, (.mv (.t 3))⟩, ⟨(some 19), none, (.bin .add (.c (.t (.str [109]))) (.t 18))⟩, ⟨(some 2), none, (.mv (.t 19))⟩]) .ret)))))
theorem k_laws_markText : comp Try.prog 20 (Try.f115.body.getD .skip) = some c_laws_markText := by kernel_rfl

def digit (k : Nat) : UInt8 := UInt8.ofNat (IntKind.u8.wrap (IntKind.i64.wrap (48 + (k : Int).tmod 10))).toNat
def dec (k : Nat) (o : List UInt8) : List UInt8 := if h : k = 0 then o else dec (k / 10) (digit k :: o)
termination_by k
decreasing_by omega
def markTxt (k : Nat) : List UInt8 := 109 :: dec k []

theorem markText (k : Nat) (h1 : 1 ≤ k) (h2 : k < 2 ^ 62) (σ : Store) : ACalls Try.prog 115 [.t (.int .i64 k)] σ fun r σ' => r = .t (.str (markTxt k)) ∧ σ' = σ := by
  refine acalls_of Try.func115 (by decide +kernel) (code := Try.f115.body.getD .skip) (n := 20) (c := c_laws_markText) (rs := [(.tmp 2)]) rfl rfl k_laws_markText (by kernel_rfl) (by simp) (fun hσ => ?_)
  have hpos : decide ((k : Int) ≤ 0) = false := by simp; omega
  simp -implicitDefEqProofs only [c_laws_markText, hpos, S0, S1, S2, S3, S4, S5, S6, S7, S8, S9, S10, S11, S12, S13, S14, S15, S16, S17, opv, opvs, eget, env0, setD, lenStr, lenSl, isNilP, isNilS, putAt, if_true, if_false, reduceCtorEq, Nat.reduceLeDiff, Nat.reduceEqDiff, Nat.reduceSub, Nat.reduceMul, Nat.reduceAdd]
  refine loop_by [0, 3] σ.length (fun n s' => ∃ j o, n = j ∧ j + o.length ≤ k ∧ dec j o = dec k [] ∧ s' = ⟨.go, [(0, .t (.int .i64 (j : Nat))), (3, .t (.str o))], σ⟩) k (cut_all (Nat.le_refl _)) ⟨k, [], rfl, by simp, rfl, ?_⟩ ?_
  · simp [St.cut, keep, eget]
  · rintro j s' ⟨_, o, rfl, hj, hd, rfl⟩
    simp -implicitDefEqProofs only [S0, S1, S2, S3, S4, S5, S6, S7, S8, S9, S10, S11, S12, S13, S14, S15, S16, S17, opv, opvs, eget, env0, setD, lenStr, lenSl, isNilP, isNilS, putAt, if_true, if_false, reduceCtorEq, Nat.reduceLeDiff, Nat.reduceEqDiff, Nat.reduceSub, Nat.reduceMul, Nat.reduceAdd]
    refine cond_split (fun h => ?_) (fun h => ?_)
    · have hj0 : 0 < j := by simpa using h
      have hdec : dec j o = dec (j / 10) (digit j :: o) := by rw [dec]; simp [show ¬ j = 0 by omega]
      have hq : IntKind.i64.wrap ((j : Int).tdiv 10) = ((j / 10 : Nat) : Int) := by
        rw [show (j : Int).tdiv 10 = ((j / 10 : Nat) : Int) by rw [Int.tdiv_eq_ediv_of_nonneg (by omega)]; omega]
        exact IntWalk.i64_in _ (by omega)
      have hten : ((10 : Int) ≠ 0) = True := by simp
      have hlen : (((1 + o.length : Nat)) : Int) ≤ 9223372036854775807 := by omega
      simp -implicitDefEqProofs only [h, hten, S0, S1, S2, S3, S4, S5, S6, S7, S8, S9, S10, S11, S12, S13, S14, S15, S16, S17, opv, opvs, eget, env0, setD, lenStr, lenSl, isNilP, isNilS, putAt, if_true, if_false, reduceCtorEq, Nat.reduceLeDiff, Nat.reduceEqDiff, Nat.reduceSub, Nat.reduceMul, Nat.reduceAdd]
      refine ⟨by omega, lit_rows ?_⟩
      simp -implicitDefEqProofs only [h, hten, q_rows_r, Option.map_some, hlen, hq, S0, S1, S2, S3, S4, S5, S6, S7, S8, S9, S10, S11, S12, S13, S14, S15, S16, S17, opv, opvs, eget, env0, setD, lenStr, lenSl, isNilP, isNilS, putAt, if_true, if_false, reduceCtorEq, Nat.reduceLeDiff, Nat.reduceEqDiff, Nat.reduceSub, Nat.reduceMul, Nat.reduceAdd]
      refine ⟨cut_all (Nat.le_refl _), j / 10, by omega, j / 10, digit j :: o, rfl, by simp; omega, by rw [← hd, hdec], ?_⟩
      simp [St.cut, keep, eget, digit]
    · simp -implicitDefEqProofs only [h, S0, S1, S2, S3, S4, S5, S6, S7, S8, S9, S10, S11, S12, S13, S14, S15, S16, S17, opv, opvs, eget, env0, setD, lenStr, lenSl, isNilP, isNilS, putAt, if_true, if_false, reduceCtorEq, Nat.reduceLeDiff, Nat.reduceEqDiff, Nat.reduceSub, Nat.reduceMul, Nat.reduceAdd]
      have hj0 : j = 0 := by
        have : ¬ (0 : Int) < j := by simpa using h
        omega
      subst hj0
      have ho : o = dec k [] := by rw [← hd, dec]; simp
      have hlen : (((1 + o.length : Nat)) : Int) ≤ 9223372036854775807 := by omega
      simp -implicitDefEqProofs only [hlen, S0, S1, S2, S3, S4, S5, S6, S7, S8, S9, S10, S11, S12, S13, S14, S15, S16, S17, opv, opvs, eget, env0, setD, lenStr, lenSl, isNilP, isNilS, putAt, if_true, if_false, reduceCtorEq, Nat.reduceLeDiff, Nat.reduceEqDiff, Nat.reduceSub, Nat.reduceMul, Nat.reduceAdd]
      exact ret_same0 rfl ⟨by simp [mkRes, markTxt, ho], rfl⟩
theorem textOk : TextOk Try.prog markTxt 115 := fun k σ h1 h2 => markText k h1 (by omega) σ
end Go.Proofs.Ytgdmgoidfglobaa.W

end


section
open Go Go.Ab
set_option maxHeartbeats 4000000
set_option maxRecDepth 20000
namespace Go.Proofs.Ytgdmgoidfglobaa.W
def c_markStringS : C := (.seq (.ops [⟨(some 12), none, (.mv (.t 0))⟩, ⟨(some 13), none, (.mv (.t 5))⟩, ⟨(some 14), none, (.mv (.t 1))⟩, ⟨(some 15), none, (.call (.c (.fn (.func 115) [])) [(.t 14)])⟩, ⟨(some 16), none, (.indexAddr 1 (.t 12) (.t 13))⟩, ⟨none, none, (.store 1 (.t 16) (.t 15))⟩]) (.ops [⟨(some 17), none, (.mv (.t 1))⟩, ⟨(some 18), none, (.bin .add (.t 17) (.c (.t (.int .i64 1))))⟩, ⟨(some 1), none, (.mv (.t 18))⟩]))
theorem row_markStringS : RowMark Try.prog markTxt 1 c_markStringS [.str] := by
  intro b Q e σ id len i rs row r ji k g0 g5 g1 hl hi hs hr hT hz hO hnd hk hlt hQ
  simp only [isL_cons, isL_nil, is_str] at hT
  obtain ⟨_, _, rfl, ⟨n0, rfl, b0⟩, rfl⟩ := hT
  have hm : T.mkL markTxt k [.str n0] = ([.str (markTxt k)], (k + 1)) := by simp only [mkL_cons, mkL_nil, mkc_int, mkc_bool, mkc_str, Nat.add_assoc, Nat.reduceAdd]
  rw [hm] at hlt hQ
  simp only at hlt hQ
  clear hm
  obtain ⟨_, rfl, hO0⟩ := oc_str hO
  clear hO
  obtain ⟨rfl, rfl⟩ := oc_nil hO0
  have w0 : IntKind.i64.wrap (((k : Nat) : Int) + 1) = (((k + 1) : Nat) : Int) := i64_succ (k := k) (by omega)
  have hidl := (List.getElem?_eq_some_iff.1 hs).1
  have s0 : ∀ o, (σ.set id o)[id]? = some o := fun o => by simp [hidl]
  have rr : ∀ x, (rs.set i x)[i]? = some x := fun x => by simp [hl, hi]
  have hi' : ((i : Nat) : Int) < ((len : Nat) : Int) := by omega
  have three : ((3 : Int) ≠ 0) = True := by simp
  simp (maxSteps := 4000000) -implicitDefEqProofs only [c_markStringS, g0, g5, g1, hs, hr, hl, hi', nat_nn, s0, rr, three, Nat.zero_le, w0, S0, S1, S2, S3, S4, S5, S6, S7, S8, S9, S10, S11, S12, S13, S14, S15, S16, S17, opv, opvs, eget, env0, setD, lenStr, lenSl, isNilP, isNilS, putAt, if_true, if_false, reduceCtorEq, Nat.reduceLeDiff, Nat.reduceEqDiff, Nat.reduceSub, Nat.reduceMul, Nat.reduceAdd]
  refine call_pure (textOk k _ (by omega) (by omega)) ?_
  simp (maxSteps := 4000000) -implicitDefEqProofs only [g0, g5, g1, hs, hr, hl, hi', nat_nn, s0, rr, three, Nat.zero_le, w0, S0, S1, S2, S3, S4, S5, S6, S7, S8, S9, S10, S11, S12, S13, S14, S15, S16, S17, opv, opvs, eget, env0, setD, lenStr, lenSl, isNilP, isNilS, putAt, if_true, if_false, reduceCtorEq, Nat.reduceLeDiff, Nat.reduceEqDiff, Nat.reduceSub, Nat.reduceMul, Nat.reduceAdd]
  refine hQ _ _ [.t (.str (markTxt k))] ?_ ?_ ?_ ?_ ?_ ?_ ?_
  · simp (maxSteps := 4000000) -implicitDefEqProofs only [g0, g5, g1, S0, S1, S2, S3, S4, S5, S6, S7, S8, S9, S10, S11, S12, S13, S14, S15, S16, S17, opv, opvs, eget, env0, setD, lenStr, lenSl, isNilP, isNilS, putAt, if_true, if_false, reduceCtorEq, Nat.reduceLeDiff, Nat.reduceEqDiff, Nat.reduceSub, Nat.reduceMul, Nat.reduceAdd]
  · simp (maxSteps := 4000000) -implicitDefEqProofs only [g0, g5, g1, S0, S1, S2, S3, S4, S5, S6, S7, S8, S9, S10, S11, S12, S13, S14, S15, S16, S17, opv, opvs, eget, env0, setD, lenStr, lenSl, isNilP, isNilS, putAt, if_true, if_false, reduceCtorEq, Nat.reduceLeDiff, Nat.reduceEqDiff, Nat.reduceSub, Nat.reduceMul, Nat.reduceAdd]
  · simp (maxSteps := 4000000) -implicitDefEqProofs only [g0, g5, g1, S0, S1, S2, S3, S4, S5, S6, S7, S8, S9, S10, S11, S12, S13, S14, S15, S16, S17, opv, opvs, eget, env0, setD, lenStr, lenSl, isNilP, isNilS, putAt, if_true, if_false, reduceCtorEq, Nat.reduceLeDiff, Nat.reduceEqDiff, Nat.reduceSub, Nat.reduceMul, Nat.reduceAdd]
  · exact s0 _
  · exact (OwnL.str OwnL.nil0)
  · simp only [List.length_set]
    omega
  · intro j hj hn
    simp only [List.mem_cons, List.mem_append, List.not_mem_nil, not_or, not_false_eq_true, and_true] at hn
    rw [List.getElem?_set_ne (fun e => hn e.symm)]
theorem i_markStringS : Is Try.prog 117 20 [(.tmp 4)] (tMarkS 19 c_markStringS) := ⟨_, _, Try.func117, by decide +kernel, rfl, rfl, by kernel_rfl, rfl⟩
theorem markStringS : MarkOk Try.prog markTxt 117 (.sl 1 [.str]) := markS_ok rfl (by decide) (by decide) i_markStringS row_markStringS
def c_heldStringS : C := (.seq (.seq (.drawn [(.mk 0 false ⟨(some 12), none, (.mv (.t 0))⟩ []), (.mk 1 false ⟨(some 13), none, (.mv (.t 5))⟩ []), (.mk 2 false ⟨(some 14), none, (.indexAddr 1 (.t 12) (.t 13))⟩ []), (.mk 3 false ⟨(some 15), none, (.load none (.t 14))⟩ []), (.mk 4 false ⟨(some 16), none, (.mv (.t 1))⟩ []), (.mk 5 true ⟨(some 17), none, (.call (.c (.fn (.func 115) [])) [(.t 16)])⟩ [⟨(some 14), none, (.indexAddr 1 (.t 12) (.t 13))⟩, ⟨(some 15), none, (.load none (.t 14))⟩]), (.mk 6 false ⟨(some 18), none, (.bin .neq (.t 15) (.t 17))⟩ [])]) (.cond (.t 18) (.seq (.ops [⟨(some 4), none, (.mv (.c (.t (.int .i64 (-1)))))⟩]) .ret) .skip)) (.ops [⟨(some 19), none, (.mv (.t 1))⟩, ⟨(some 20), none, (.bin .add (.t 19) (.c (.t (.int .i64 1))))⟩, ⟨(some 1), none, (.mv (.t 20))⟩]))
theorem row_heldStringS : RowHeld Try.prog markTxt 1 c_heldStringS [.str] := by
  intro b Q e σ i rows row k g0 g5 g1 hr hT hz hk hlt hQ
  simp only [isL_cons, isL_nil, is_str] at hT
  obtain ⟨_, _, rfl, ⟨n0, rfl, b0⟩, rfl⟩ := hT
  have hm : T.mkL markTxt k [.str n0] = ([.str (markTxt k)], (k + 1)) := by simp only [mkL_cons, mkL_nil, mkc_int, mkc_bool, mkc_str, Nat.add_assoc, Nat.reduceAdd]
  rw [hm] at hlt hQ hr
  simp only at hlt hQ hr
  clear hm
  have w0 : IntKind.i64.wrap (((k : Nat) : Int) + 1) = (((k + 1) : Nat) : Int) := i64_succ (k := k) (by omega)
  have three : ((3 : Int) ≠ 0) = True := by simp
  simp (maxSteps := 4000000) -implicitDefEqProofs only [c_heldStringS, g0, g5, g1, hr, nat_nn, three, nat_neg, ne_self, beq_self_eq_true, Nat.zero_le, w0, S0, S1, S2, S3, S4, S5, S6, S7, S8, S9, S10, S11, S12, S13, S14, S15, S16, S17, opv, opvs, eget, env0, setD, lenStr, lenSl, isNilP, isNilS, putAt, if_true, if_false, reduceCtorEq, Nat.reduceLeDiff, Nat.reduceEqDiff, Nat.reduceSub, Nat.reduceMul, Nat.reduceAdd]
  refine call_pure (textOk k _ (by omega) (by omega)) ?_
  simp (maxSteps := 4000000) -implicitDefEqProofs only [g0, g5, g1, hr, nat_nn, three, nat_neg, ne_self, beq_self_eq_true, Nat.zero_le, w0, S0, S1, S2, S3, S4, S5, S6, S7, S8, S9, S10, S11, S12, S13, S14, S15, S16, S17, opv, opvs, eget, env0, setD, lenStr, lenSl, isNilP, isNilS, putAt, if_true, if_false, reduceCtorEq, Nat.reduceLeDiff, Nat.reduceEqDiff, Nat.reduceSub, Nat.reduceMul, Nat.reduceAdd]
  refine hQ _ ?_ ?_ ?_ <;> simp (maxSteps := 4000000) -implicitDefEqProofs only [g0, g5, g1, S0, S1, S2, S3, S4, S5, S6, S7, S8, S9, S10, S11, S12, S13, S14, S15, S16, S17, opv, opvs, eget, env0, setD, lenStr, lenSl, isNilP, isNilS, putAt, if_true, if_false, reduceCtorEq, Nat.reduceLeDiff, Nat.reduceEqDiff, Nat.reduceSub, Nat.reduceMul, Nat.reduceAdd]
theorem i_heldStringS : Is Try.prog 118 22 [(.tmp 4)] (tMarkS 21 c_heldStringS) := ⟨_, _, Try.func118, by decide +kernel, rfl, rfl, by kernel_rfl, rfl⟩
theorem heldStringS : HeldOk Try.prog markTxt 118 (.sl 1 [.str]) := heldS_ok rfl (by decide) (by decide) i_heldStringS row_heldStringS
def c_markGateFieldS : C := (.seq (.ops [⟨(some 12), none, (.mv (.t 0))⟩, ⟨(some 13), none, (.mv (.t 5))⟩, ⟨(some 14), none, (.mv (.t 1))⟩, ⟨(some 15), none, (.call (.c (.fn (.func 115) [])) [(.t 14)])⟩, ⟨(some 16), none, (.indexAddr 11 (.t 12) (.t 13))⟩, ⟨(some 17), none, (.fieldAddr 0 (.t 16))⟩, ⟨none, none, (.store 1 (.t 17) (.t 15))⟩]) (.seq (.ops [⟨(some 18), none, (.mv (.t 1))⟩, ⟨(some 19), none, (.bin .add (.t 18) (.c (.t (.int .i64 1))))⟩, ⟨(some 1), none, (.mv (.t 19))⟩]) (.seq (.ops [⟨(some 20), none, (.mv (.t 0))⟩, ⟨(some 21), none, (.mv (.t 5))⟩, ⟨(some 22), none, (.mv (.t 1))⟩, ⟨(some 23), none, (.indexAddr 11 (.t 20) (.t 21))⟩, ⟨(some 24), none, (.fieldAddr 1 (.t 23))⟩, ⟨none, none, (.store 1 (.t 24) (.t 22))⟩]) (.seq (.ops [⟨(some 25), none, (.mv (.t 1))⟩, ⟨(some 26), none, (.bin .add (.t 25) (.c (.t (.int .i64 1))))⟩, ⟨(some 1), none, (.mv (.t 26))⟩]) (.seq (.ops [⟨(some 27), none, (.mv (.t 0))⟩, ⟨(some 28), none, (.mv (.t 5))⟩, ⟨(some 29), none, (.mv (.t 1))⟩, ⟨(some 30), none, (.indexAddr 11 (.t 27) (.t 28))⟩, ⟨(some 31), none, (.fieldAddr 2 (.t 30))⟩, ⟨none, none, (.store 1 (.t 31) (.t 29))⟩]) (.seq (.ops [⟨(some 32), none, (.mv (.t 1))⟩, ⟨(some 33), none, (.bin .add (.t 32) (.c (.t (.int .i64 1))))⟩, ⟨(some 1), none, (.mv (.t 33))⟩]) (.seq (.ops [⟨(some 34), none, (.mv (.t 0))⟩, ⟨(some 35), none, (.mv (.t 5))⟩, ⟨(some 36), none, (.mv (.t 1))⟩, ⟨(some 37), none, (.indexAddr 11 (.t 34) (.t 35))⟩, ⟨(some 38), none, (.fieldAddr 3 (.t 37))⟩, ⟨none, none, (.store 1 (.t 38) (.t 36))⟩]) (.seq (.ops [⟨(some 39), none, (.mv (.t 1))⟩, ⟨(some 40), none, (.bin .add (.t 39) (.c (.t (.int .i64 1))))⟩, ⟨(some 1), none, (.mv (.t 40))⟩]) (.seq (.ops [⟨(some 41), none, (.mv (.t 0))⟩, ⟨(some 42), none, (.mv (.t 5))⟩, ⟨(some 43), none, (.indexAddr 11 (.t 41) (.t 42))⟩, ⟨(some 44), none, (.fieldAddr 4 (.t 43))⟩, ⟨(some 45), none, (.load none (.t 44))⟩, ⟨(some 46), none, (.mv (.t 1))⟩, ⟨(some 47), none, (.call (.c (.fn (.func 117) [])) [(.t 45), (.t 46)])⟩, ⟨(some 1), none, (.mv (.t 47))⟩]) (.seq (.ops [⟨(some 48), none, (.mv (.t 0))⟩, ⟨(some 49), none, (.mv (.t 5))⟩, ⟨(some 50), none, (.mv (.t 1))⟩, ⟨(some 51), none, (.call (.c (.fn (.func 115) [])) [(.t 50)])⟩, ⟨(some 52), none, (.indexAddr 11 (.t 48) (.t 49))⟩, ⟨(some 53), none, (.fieldAddr 5 (.t 52))⟩, ⟨none, none, (.store 1 (.t 53) (.t 51))⟩]) (.seq (.ops [⟨(some 54), none, (.mv (.t 1))⟩, ⟨(some 55), none, (.bin .add (.t 54) (.c (.t (.int .i64 1))))⟩, ⟨(some 1), none, (.mv (.t 55))⟩]) (.seq (.ops [⟨(some 56), none, (.mv (.t 0))⟩, ⟨(some 57), none, (.mv (.t 5))⟩, ⟨(some 58), none, (.mv (.t 1))⟩, ⟨(some 59), none, (.indexAddr 11 (.t 56) (.t 57))⟩, ⟨(some 60), none, (.fieldAddr 6 (.t 59))⟩, ⟨none, none, (.store 1 (.t 60) (.t 58))⟩]) (.seq (.ops [⟨(some 61), none, (.mv (.t 1))⟩, ⟨(some 62), none, (.bin .add (.t 61) (.c (.t (.int .i64 1))))⟩, ⟨(some 1), none, (.mv (.t 62))⟩]) (.seq (.ops [⟨(some 63), none, (.mv (.t 0))⟩, ⟨(some 64), none, (.mv (.t 5))⟩, ⟨(some 65), none, (.mv (.t 1))⟩, ⟨(some 66), none, (.bin .rem (.t 65) (.c (.t (.int .i64 3))))⟩, ⟨(some 67), none, (.bin .eql (.t 66) (.c (.t (.int .i64 0))))⟩, ⟨(some 68), none, (.indexAddr 11 (.t 63) (.t 64))⟩, ⟨(some 69), none, (.fieldAddr 7 (.t 68))⟩, ⟨none, none, (.store 1 (.t 69) (.t 67))⟩]) (.seq (.ops [⟨(some 70), none, (.mv (.t 1))⟩, ⟨(some 71), none, (.bin .add (.t 70) (.c (.t (.int .i64 1))))⟩, ⟨(some 1), none, (.mv (.t 71))⟩]) (.seq (.ops [⟨(some 72), none, (.mv (.t 0))⟩, ⟨(some 73), none, (.mv (.t 5))⟩, ⟨(some 74), none, (.mv (.t 1))⟩, ⟨(some 75), none, (.bin .rem (.t 74) (.c (.t (.int .i64 3))))⟩, ⟨(some 76), none, (.bin .eql (.t 75) (.c (.t (.int .i64 0))))⟩, ⟨(some 77), none, (.indexAddr 11 (.t 72) (.t 73))⟩, ⟨(some 78), none, (.fieldAddr 8 (.t 77))⟩, ⟨none, none, (.store 1 (.t 78) (.t 76))⟩]) (.seq (.ops [⟨(some 79), none, (.mv (.t 1))⟩, ⟨(some 80), none, (.bin .add (.t 79) (.c (.t (.int .i64 1))))⟩, ⟨(some 1), none, (.mv (.t 80))⟩]) (.seq (.ops [⟨(some 81), none, (.mv (.t 0))⟩, ⟨(some 82), none, (.mv (.t 5))⟩, ⟨(some 83), none, (.mv (.t 1))⟩, ⟨(some 84), none, (.call (.c (.fn (.func 115) [])) [(.t 83)])⟩, ⟨(some 85), none, (.indexAddr 11 (.t 81) (.t 82))⟩, ⟨(some 86), none, (.fieldAddr 9 (.t 85))⟩, ⟨none, none, (.store 1 (.t 86) (.t 84))⟩]) (.seq (.ops [⟨(some 87), none, (.mv (.t 1))⟩, ⟨(some 88), none, (.bin .add (.t 87) (.c (.t (.int .i64 1))))⟩, ⟨(some 1), none, (.mv (.t 88))⟩]) (.seq (.ops [⟨(some 89), none, (.mv (.t 0))⟩, ⟨(some 90), none, (.mv (.t 5))⟩, ⟨(some 91), none, (.mv (.t 1))⟩, ⟨(some 92), none, (.call (.c (.fn (.func 115) [])) [(.t 91)])⟩, ⟨(some 93), none, (.indexAddr 11 (.t 89) (.t 90))⟩, ⟨(some 94), none, (.fieldAddr 10 (.t 93))⟩, ⟨none, none, (.store 1 (.t 94) (.t 92))⟩]) (.ops [⟨(some 95), none, (.mv (.t 1))⟩, ⟨(some 96), none, (.bin .add (.t 95) (.c (.t (.int .i64 1))))⟩, ⟨(some 1), none, (.mv (.t 96))⟩])))))))))))))))))))))
theorem row_markGateFieldS : RowMark Try.prog markTxt 11 c_markGateFieldS shGateField := by
  intro b Q e σ id len i rs row r ji k g0 g5 g1 hl hi hs hr hT hz hO hnd hk hlt hQ
  obtain ⟨n0, n1, n2, n3, n4, n5, n6, n7, n8, n9, n10, rfl, b0, b1, b2, b3, b4, b5, b6, b9, b10⟩ := isGateField hT
  rw [sizeGateField] at hz
  have hm : T.mkL markTxt k [.str n0, .int .i64 n1, .int .i64 n2, .int .i64 n3, n4, .str n5, .int .i64 n6, .bool n7, .bool n8, .str n9, .str n10] = ([.str (markTxt k), .int .i64 (((k + 1) : Nat) : Int), .int .i64 (((k + 2) : Nat) : Int), .int .i64 (((k + 3) : Nat) : Int), (T.mk markTxt (k + 4) n4).1, .str (markTxt (T.mk markTxt (k + 4) n4).2), .int .i64 ((((T.mk markTxt (k + 4) n4).2 + 1) : Nat) : Int), .bool (((((T.mk markTxt (k + 4) n4).2 + 2) : Nat) : Int).tmod 3 == 0), .bool (((((T.mk markTxt (k + 4) n4).2 + 3) : Nat) : Int).tmod 3 == 0), .str (markTxt ((T.mk markTxt (k + 4) n4).2 + 4)), .str (markTxt ((T.mk markTxt (k + 4) n4).2 + 5))], ((T.mk markTxt (k + 4) n4).2 + 6)) := by simp only [mkL_cons, mkL_nil, mkc_int, mkc_bool, mkc_str, Nat.add_assoc, Nat.reduceAdd]
  rw [hm] at hlt hQ
  simp only at hlt hQ
  clear hm
  obtain ⟨_, rfl, hO0⟩ := oc_str hO
  clear hO
  obtain ⟨_, rfl, hO1⟩ := oc_int hO0
  clear hO0
  obtain ⟨_, rfl, hO2⟩ := oc_int hO1
  clear hO1
  obtain ⟨_, rfl, hO3⟩ := oc_int hO2
  clear hO2
  obtain ⟨u4, _, j4, _, rfl, rfl, o4, hO4⟩ := oc_lst hO3
  clear hO3
  obtain ⟨_, rfl, hO5⟩ := oc_str hO4
  clear hO4
  obtain ⟨_, rfl, hO6⟩ := oc_int hO5
  clear hO5
  obtain ⟨_, rfl, hO7⟩ := oc_bool hO6
  clear hO6
  obtain ⟨_, rfl, hO8⟩ := oc_bool hO7
  clear hO7
  obtain ⟨_, rfl, hO9⟩ := oc_str hO8
  clear hO8
  obtain ⟨_, rfl, hO10⟩ := oc_str hO9
  clear hO9
  obtain ⟨rfl, rfl⟩ := oc_nil hO10
  have l4 := mk_le (mt := markTxt) (k := (k + 4)) (t := n4)
  have w0 : IntKind.i64.wrap (((k : Nat) : Int) + 1) = (((k + 1) : Nat) : Int) := i64_succ (k := k) (by omega)
  have w1 : IntKind.i64.wrap ((((k + 1) : Nat) : Int) + 1) = (((k + 2) : Nat) : Int) := i64_succ (k := (k + 1)) (by omega)
  have w2 : IntKind.i64.wrap ((((k + 2) : Nat) : Int) + 1) = (((k + 3) : Nat) : Int) := i64_succ (k := (k + 2)) (by omega)
  have w3 : IntKind.i64.wrap ((((k + 3) : Nat) : Int) + 1) = (((k + 4) : Nat) : Int) := i64_succ (k := (k + 3)) (by omega)
  have w5 : IntKind.i64.wrap ((((T.mk markTxt (k + 4) n4).2 : Nat) : Int) + 1) = ((((T.mk markTxt (k + 4) n4).2 + 1) : Nat) : Int) := i64_succ (k := (T.mk markTxt (k + 4) n4).2) (by omega)
  have w6 : IntKind.i64.wrap (((((T.mk markTxt (k + 4) n4).2 + 1) : Nat) : Int) + 1) = ((((T.mk markTxt (k + 4) n4).2 + 2) : Nat) : Int) := i64_succ (k := ((T.mk markTxt (k + 4) n4).2 + 1)) (by omega)
  have w7 : IntKind.i64.wrap (((((T.mk markTxt (k + 4) n4).2 + 2) : Nat) : Int) + 1) = ((((T.mk markTxt (k + 4) n4).2 + 3) : Nat) : Int) := i64_succ (k := ((T.mk markTxt (k + 4) n4).2 + 2)) (by omega)
  have w8 : IntKind.i64.wrap (((((T.mk markTxt (k + 4) n4).2 + 3) : Nat) : Int) + 1) = ((((T.mk markTxt (k + 4) n4).2 + 4) : Nat) : Int) := i64_succ (k := ((T.mk markTxt (k + 4) n4).2 + 3)) (by omega)
  have w9 : IntKind.i64.wrap (((((T.mk markTxt (k + 4) n4).2 + 4) : Nat) : Int) + 1) = ((((T.mk markTxt (k + 4) n4).2 + 5) : Nat) : Int) := i64_succ (k := ((T.mk markTxt (k + 4) n4).2 + 4)) (by omega)
  have w10 : IntKind.i64.wrap (((((T.mk markTxt (k + 4) n4).2 + 5) : Nat) : Int) + 1) = ((((T.mk markTxt (k + 4) n4).2 + 6) : Nat) : Int) := i64_succ (k := ((T.mk markTxt (k + 4) n4).2 + 5)) (by omega)
  have hidl := (List.getElem?_eq_some_iff.1 hs).1
  have s0 : ∀ o, (σ.set id o)[id]? = some o := fun o => by simp [hidl]
  have rr : ∀ x, (rs.set i x)[i]? = some x := fun x => by simp [hl, hi]
  have hi' : ((i : Nat) : Int) < ((len : Nat) : Int) := by omega
  have three : ((3 : Int) ≠ 0) = True := by simp
  obtain ⟨nid, nd⟩ := List.nodup_cons.1 hnd
  simp only [List.mem_append, not_or, List.not_mem_nil, not_false_eq_true, and_true] at nid
  obtain ⟨nd4, rest4, dj4, dk4⟩ := nd_app nd
  have ni4 : id ∉ j4 := nid
  simp (maxSteps := 4000000) -implicitDefEqProofs only [c_markGateFieldS, g0, g5, g1, hs, hr, hl, hi', nat_nn, s0, rr, three, Nat.zero_le, w0, w1, w2, w3, w5, w6, w7, w8, w9, w10, one_cells o4.one, o4.one, S0, S1, S2, S3, S4, S5, S6, S7, S8, S9, S10, S11, S12, S13, S14, S15, S16, S17, opv, opvs, eget, env0, setD, lenStr, lenSl, isNilP, isNilS, putAt, if_true, if_false, reduceCtorEq, Nat.reduceLeDiff, Nat.reduceEqDiff, Nat.reduceSub, Nat.reduceMul, Nat.reduceAdd]
  refine call_pure (textOk k _ (by omega) (by omega)) ?_
  simp (maxSteps := 4000000) -implicitDefEqProofs only [g0, g5, g1, hs, hr, hl, hi', nat_nn, s0, rr, three, Nat.zero_le, w0, w1, w2, w3, w5, w6, w7, w8, w9, w10, one_cells o4.one, o4.one, S0, S1, S2, S3, S4, S5, S6, S7, S8, S9, S10, S11, S12, S13, S14, S15, S16, S17, opv, opvs, eget, env0, setD, lenStr, lenSl, isNilP, isNilS, putAt, if_true, if_false, reduceCtorEq, Nat.reduceLeDiff, Nat.reduceEqDiff, Nat.reduceSub, Nat.reduceMul, Nat.reduceAdd]
  refine call_by (by rw [List.append_nil]; exact markStringS n4 u4 j4 (k + 4) _ b4 (by omega) (o4.set ni4) nd4 (by omega) (by omega)) ?_
  rintro r' σ4 ⟨rfl, q4, y4, f4⟩
  have e4 := f4 id (by (try simp only [List.length_set]); exact hidl) ni4
  first | rw [s0] at e4 | rw [hs] at e4
  have h4 := (List.getElem?_eq_some_iff.1 e4).1
  have s4 : ∀ o, (σ4.set id o)[id]? = some o := fun o => by simp [h4]
  simp (maxSteps := 4000000) -implicitDefEqProofs only [s4, e4, g0, g5, g1, hs, hr, hl, hi', nat_nn, s0, rr, three, Nat.zero_le, w0, w1, w2, w3, w5, w6, w7, w8, w9, w10, one_cells o4.one, o4.one, S0, S1, S2, S3, S4, S5, S6, S7, S8, S9, S10, S11, S12, S13, S14, S15, S16, S17, opv, opvs, eget, env0, setD, lenStr, lenSl, isNilP, isNilS, putAt, if_true, if_false, reduceCtorEq, Nat.reduceLeDiff, Nat.reduceEqDiff, Nat.reduceSub, Nat.reduceMul, Nat.reduceAdd]
  refine call_pure (textOk (T.mk markTxt (k + 4) n4).2 _ (by omega) (by omega)) ?_
  simp (maxSteps := 4000000) -implicitDefEqProofs only [s4, e4, g0, g5, g1, hs, hr, hl, hi', nat_nn, s0, rr, three, Nat.zero_le, w0, w1, w2, w3, w5, w6, w7, w8, w9, w10, one_cells o4.one, o4.one, S0, S1, S2, S3, S4, S5, S6, S7, S8, S9, S10, S11, S12, S13, S14, S15, S16, S17, opv, opvs, eget, env0, setD, lenStr, lenSl, isNilP, isNilS, putAt, if_true, if_false, reduceCtorEq, Nat.reduceLeDiff, Nat.reduceEqDiff, Nat.reduceSub, Nat.reduceMul, Nat.reduceAdd]
  refine call_pure (textOk ((T.mk markTxt (k + 4) n4).2 + 4) _ (by omega) (by omega)) ?_
  simp (maxSteps := 4000000) -implicitDefEqProofs only [s4, e4, g0, g5, g1, hs, hr, hl, hi', nat_nn, s0, rr, three, Nat.zero_le, w0, w1, w2, w3, w5, w6, w7, w8, w9, w10, one_cells o4.one, o4.one, S0, S1, S2, S3, S4, S5, S6, S7, S8, S9, S10, S11, S12, S13, S14, S15, S16, S17, opv, opvs, eget, env0, setD, lenStr, lenSl, isNilP, isNilS, putAt, if_true, if_false, reduceCtorEq, Nat.reduceLeDiff, Nat.reduceEqDiff, Nat.reduceSub, Nat.reduceMul, Nat.reduceAdd]
  refine call_pure (textOk ((T.mk markTxt (k + 4) n4).2 + 5) _ (by omega) (by omega)) ?_
  simp (maxSteps := 4000000) -implicitDefEqProofs only [s4, e4, g0, g5, g1, hs, hr, hl, hi', nat_nn, s0, rr, three, Nat.zero_le, w0, w1, w2, w3, w5, w6, w7, w8, w9, w10, one_cells o4.one, o4.one, S0, S1, S2, S3, S4, S5, S6, S7, S8, S9, S10, S11, S12, S13, S14, S15, S16, S17, opv, opvs, eget, env0, setD, lenStr, lenSl, isNilP, isNilS, putAt, if_true, if_false, reduceCtorEq, Nat.reduceLeDiff, Nat.reduceEqDiff, Nat.reduceSub, Nat.reduceMul, Nat.reduceAdd]
  refine hQ _ _ [.t (.str (markTxt k)), .t (.int .i64 (((k + 1) : Nat) : Int)), .t (.int .i64 (((k + 2) : Nat) : Int)), .t (.int .i64 (((k + 3) : Nat) : Int)), u4, .t (.str (markTxt (T.mk markTxt (k + 4) n4).2)), .t (.int .i64 ((((T.mk markTxt (k + 4) n4).2 + 1) : Nat) : Int)), .t (.bool (((((T.mk markTxt (k + 4) n4).2 + 2) : Nat) : Int).tmod 3 == 0)), .t (.bool (((((T.mk markTxt (k + 4) n4).2 + 3) : Nat) : Int).tmod 3 == 0)), .t (.str (markTxt ((T.mk markTxt (k + 4) n4).2 + 4))), .t (.str (markTxt ((T.mk markTxt (k + 4) n4).2 + 5)))] ?_ ?_ ?_ ?_ ?_ ?_ ?_
  · simp (maxSteps := 4000000) -implicitDefEqProofs only [g0, g5, g1, S0, S1, S2, S3, S4, S5, S6, S7, S8, S9, S10, S11, S12, S13, S14, S15, S16, S17, opv, opvs, eget, env0, setD, lenStr, lenSl, isNilP, isNilS, putAt, if_true, if_false, reduceCtorEq, Nat.reduceLeDiff, Nat.reduceEqDiff, Nat.reduceSub, Nat.reduceMul, Nat.reduceAdd]
  · simp (maxSteps := 4000000) -implicitDefEqProofs only [g0, g5, g1, S0, S1, S2, S3, S4, S5, S6, S7, S8, S9, S10, S11, S12, S13, S14, S15, S16, S17, opv, opvs, eget, env0, setD, lenStr, lenSl, isNilP, isNilS, putAt, if_true, if_false, reduceCtorEq, Nat.reduceLeDiff, Nat.reduceEqDiff, Nat.reduceSub, Nat.reduceMul, Nat.reduceAdd]
  · simp (maxSteps := 4000000) -implicitDefEqProofs only [g0, g5, g1, S0, S1, S2, S3, S4, S5, S6, S7, S8, S9, S10, S11, S12, S13, S14, S15, S16, S17, opv, opvs, eget, env0, setD, lenStr, lenSl, isNilP, isNilS, putAt, if_true, if_false, reduceCtorEq, Nat.reduceLeDiff, Nat.reduceEqDiff, Nat.reduceSub, Nat.reduceMul, Nat.reduceAdd]
  · exact s4 _
  · exact (OwnL.str (OwnL.int (OwnL.int (OwnL.int (OwnL.lst (q4.set ni4) (OwnL.str (OwnL.int (OwnL.bool (OwnL.bool (OwnL.str (OwnL.str OwnL.nil0)))))))))))
  · simp only [List.length_set] at y4 ⊢
    omega
  · intro j hj hn
    simp only [List.mem_cons, List.mem_append, List.not_mem_nil, not_or, not_false_eq_true, and_true] at hn
    rw [List.getElem?_set_ne (fun e => hn.1 e.symm)]
    rw [f4 j (by simp only [List.length_set] at y4 ⊢; omega) hn.2]
    rw [List.getElem?_set_ne (fun e => hn.1 e.symm)]
theorem i_markGateFieldS : Is Try.prog 116 98 [(.tmp 4)] (tMarkS 97 c_markGateFieldS) := ⟨_, _, Try.func116, by decide +kernel, rfl, rfl, by kernel_rfl, rfl⟩
theorem markGateFieldS : MarkOk Try.prog markTxt 116 (.sl 11 shGateField) := markS_ok rfl (by decide) (by decide) i_markGateFieldS row_markGateFieldS
def c_markGateShapeS : C := (.seq (.ops [⟨(some 12), none, (.mv (.t 0))⟩, ⟨(some 13), none, (.mv (.t 5))⟩, ⟨(some 14), none, (.mv (.t 1))⟩, ⟨(some 15), none, (.call (.c (.fn (.func 115) [])) [(.t 14)])⟩, ⟨(some 16), none, (.indexAddr 2 (.t 12) (.t 13))⟩, ⟨(some 17), none, (.fieldAddr 0 (.t 16))⟩, ⟨none, none, (.store 1 (.t 17) (.t 15))⟩]) (.seq (.ops [⟨(some 18), none, (.mv (.t 1))⟩, ⟨(some 19), none, (.bin .add (.t 18) (.c (.t (.int .i64 1))))⟩, ⟨(some 1), none, (.mv (.t 19))⟩]) (.ops [⟨(some 20), none, (.mv (.t 0))⟩, ⟨(some 21), none, (.mv (.t 5))⟩, ⟨(some 22), none, (.indexAddr 2 (.t 20) (.t 21))⟩, ⟨(some 23), none, (.fieldAddr 1 (.t 22))⟩, ⟨(some 24), none, (.load none (.t 23))⟩, ⟨(some 25), none, (.mv (.t 1))⟩, ⟨(some 26), none, (.call (.c (.fn (.func 116) [])) [(.t 24), (.t 25)])⟩, ⟨(some 1), none, (.mv (.t 26))⟩])))
theorem row_markGateShapeS : RowMark Try.prog markTxt 2 c_markGateShapeS shGateShape := by
  intro b Q e σ id len i rs row r ji k g0 g5 g1 hl hi hs hr hT hz hO hnd hk hlt hQ
  obtain ⟨n0, n1, rfl, b0, b1⟩ := isGateShape hT
  rw [sizeGateShape] at hz
  have hm : T.mkL markTxt k [.str n0, n1] = ([.str (markTxt k), (T.mk markTxt (k + 1) n1).1], (T.mk markTxt (k + 1) n1).2) := by simp only [mkL_cons, mkL_nil, mkc_int, mkc_bool, mkc_str, Nat.add_assoc, Nat.reduceAdd]
  rw [hm] at hlt hQ
  simp only at hlt hQ
  clear hm
  obtain ⟨_, rfl, hO0⟩ := oc_str hO
  clear hO
  obtain ⟨u1, _, j1, _, rfl, rfl, o1, hO1⟩ := oc_lst hO0
  clear hO0
  obtain ⟨rfl, rfl⟩ := oc_nil hO1
  have l1 := mk_le (mt := markTxt) (k := (k + 1)) (t := n1)
  have w0 : IntKind.i64.wrap (((k : Nat) : Int) + 1) = (((k + 1) : Nat) : Int) := i64_succ (k := k) (by omega)
  have hidl := (List.getElem?_eq_some_iff.1 hs).1
  have s0 : ∀ o, (σ.set id o)[id]? = some o := fun o => by simp [hidl]
  have rr : ∀ x, (rs.set i x)[i]? = some x := fun x => by simp [hl, hi]
  have hi' : ((i : Nat) : Int) < ((len : Nat) : Int) := by omega
  have three : ((3 : Int) ≠ 0) = True := by simp
  obtain ⟨nid, nd⟩ := List.nodup_cons.1 hnd
  simp only [List.mem_append, not_or, List.not_mem_nil, not_false_eq_true, and_true] at nid
  obtain ⟨nd1, rest1, dj1, dk1⟩ := nd_app nd
  have ni1 : id ∉ j1 := nid
  simp (maxSteps := 4000000) -implicitDefEqProofs only [c_markGateShapeS, g0, g5, g1, hs, hr, hl, hi', nat_nn, s0, rr, three, Nat.zero_le, w0, one_cells o1.one, o1.one, S0, S1, S2, S3, S4, S5, S6, S7, S8, S9, S10, S11, S12, S13, S14, S15, S16, S17, opv, opvs, eget, env0, setD, lenStr, lenSl, isNilP, isNilS, putAt, if_true, if_false, reduceCtorEq, Nat.reduceLeDiff, Nat.reduceEqDiff, Nat.reduceSub, Nat.reduceMul, Nat.reduceAdd]
  refine call_pure (textOk k _ (by omega) (by omega)) ?_
  simp (maxSteps := 4000000) -implicitDefEqProofs only [g0, g5, g1, hs, hr, hl, hi', nat_nn, s0, rr, three, Nat.zero_le, w0, one_cells o1.one, o1.one, S0, S1, S2, S3, S4, S5, S6, S7, S8, S9, S10, S11, S12, S13, S14, S15, S16, S17, opv, opvs, eget, env0, setD, lenStr, lenSl, isNilP, isNilS, putAt, if_true, if_false, reduceCtorEq, Nat.reduceLeDiff, Nat.reduceEqDiff, Nat.reduceSub, Nat.reduceMul, Nat.reduceAdd]
  refine call_by (by rw [List.append_nil]; exact markGateFieldS n1 u1 j1 (k + 1) _ b1 (by omega) (o1.set ni1) nd1 (by omega) (by omega)) ?_
  rintro r' σ1 ⟨rfl, q1, y1, f1⟩
  have e1 := f1 id (by (try simp only [List.length_set]); exact hidl) ni1
  first | rw [s0] at e1 | rw [hs] at e1
  have h1 := (List.getElem?_eq_some_iff.1 e1).1
  have s1 : ∀ o, (σ1.set id o)[id]? = some o := fun o => by simp [h1]
  simp (maxSteps := 4000000) -implicitDefEqProofs only [s1, e1, g0, g5, g1, hs, hr, hl, hi', nat_nn, s0, rr, three, Nat.zero_le, w0, one_cells o1.one, o1.one, S0, S1, S2, S3, S4, S5, S6, S7, S8, S9, S10, S11, S12, S13, S14, S15, S16, S17, opv, opvs, eget, env0, setD, lenStr, lenSl, isNilP, isNilS, putAt, if_true, if_false, reduceCtorEq, Nat.reduceLeDiff, Nat.reduceEqDiff, Nat.reduceSub, Nat.reduceMul, Nat.reduceAdd]
  refine hQ _ _ [.t (.str (markTxt k)), u1] ?_ ?_ ?_ ?_ ?_ ?_ ?_
  · simp (maxSteps := 4000000) -implicitDefEqProofs only [g0, g5, g1, S0, S1, S2, S3, S4, S5, S6, S7, S8, S9, S10, S11, S12, S13, S14, S15, S16, S17, opv, opvs, eget, env0, setD, lenStr, lenSl, isNilP, isNilS, putAt, if_true, if_false, reduceCtorEq, Nat.reduceLeDiff, Nat.reduceEqDiff, Nat.reduceSub, Nat.reduceMul, Nat.reduceAdd]
  · simp (maxSteps := 4000000) -implicitDefEqProofs only [g0, g5, g1, S0, S1, S2, S3, S4, S5, S6, S7, S8, S9, S10, S11, S12, S13, S14, S15, S16, S17, opv, opvs, eget, env0, setD, lenStr, lenSl, isNilP, isNilS, putAt, if_true, if_false, reduceCtorEq, Nat.reduceLeDiff, Nat.reduceEqDiff, Nat.reduceSub, Nat.reduceMul, Nat.reduceAdd]
  · simp (maxSteps := 4000000) -implicitDefEqProofs only [g0, g5, g1, S0, S1, S2, S3, S4, S5, S6, S7, S8, S9, S10, S11, S12, S13, S14, S15, S16, S17, opv, opvs, eget, env0, setD, lenStr, lenSl, isNilP, isNilS, putAt, if_true, if_false, reduceCtorEq, Nat.reduceLeDiff, Nat.reduceEqDiff, Nat.reduceSub, Nat.reduceMul, Nat.reduceAdd]
  · exact e1
  · exact (OwnL.str (OwnL.lst q1 OwnL.nil0))
  · simp only [List.length_set] at y1 ⊢
    omega
  · intro j hj hn
    simp only [List.mem_cons, List.mem_append, List.not_mem_nil, not_or, not_false_eq_true, and_true] at hn
    rw [f1 j (by simp only [List.length_set] at y1 ⊢; omega) hn.2]
    rw [List.getElem?_set_ne (fun e => hn.1 e.symm)]
theorem i_markGateShapeS : Is Try.prog 57 28 [(.tmp 4)] (tMarkS 27 c_markGateShapeS) := ⟨_, _, Try.func57, by decide +kernel, rfl, rfl, by kernel_rfl, rfl⟩
theorem markGateShapeS : MarkOk Try.prog markTxt 57 (.sl 2 shGateShape) := markS_ok rfl (by decide) (by decide) i_markGateShapeS row_markGateShapeS
def c_laws_markGateObject : C := (.seq (.ops [⟨(some 2), none, (.box (.t 0))⟩, ⟨(some 4), none, (.mv (.c (.t (.int .i64 0))))⟩]) (.seq (.ops [⟨(some 5), none, (.fieldAddr 3 (.t 2))⟩, ⟨(some 6), none, (.load none (.t 5))⟩, ⟨(some 7), none, (.mv (.t 1))⟩, ⟨(some 8), none, (.call (.c (.fn (.func 117) [])) [(.t 6), (.t 7)])⟩, ⟨(some 1), none, (.mv (.t 8))⟩]) (.seq (.ops [⟨(some 9), none, (.fieldAddr 5 (.t 2))⟩, ⟨(some 10), none, (.load none (.t 9))⟩, ⟨(some 11), none, (.mv (.t 1))⟩, ⟨(some 12), none, (.call (.c (.fn (.func 117) [])) [(.t 10), (.t 11)])⟩, ⟨(some 1), none, (.mv (.t 12))⟩]) (.seq (.ops [⟨(some 13), none, (.mv (.t 1))⟩, ⟨(some 4), none, (.mv (.t 13))⟩]) .ret))))
theorem k_laws_markGateObject : comp Try.prog 14 (Try.f58.body.getD .skip) = some c_laws_markGateObject := by kernel_rfl

theorem markGateObject : MarkLOk Try.prog markTxt 58 shGateObject := by
  rintro ts us is k σ hT hz hO hnd hk hlt
  obtain ⟨n0, n1, n2, n3, n4, n5, n6, rfl, b0, b1, b2, b3, b5, b6⟩ := isGateObject hT
  rw [sizeGateObject] at hz
  have hm : T.mkVL markTxt k [.str n0, .str n1, .str n2, n3, .bool n4, n5, .int .i64 n6] = ([.str n0, .str n1, .str n2, (T.mk markTxt k n3).1, .bool n4, (T.mk markTxt (T.mk markTxt k n3).2 n5).1, .int .i64 n6], (T.mk markTxt (T.mk markTxt k n3).2 n5).2) := by simp only [mkVL_cons, mkVL_nil, mkV_int, mkV_bool, mkV_str, mkV_sl b3, mkV_sl b5]
  rw [hm] at hlt ⊢
  simp only at hlt ⊢
  clear hm
  obtain ⟨_, rfl, hO0⟩ := oc_str hO
  clear hO
  obtain ⟨_, rfl, hO1⟩ := oc_str hO0
  clear hO0
  obtain ⟨_, rfl, hO2⟩ := oc_str hO1
  clear hO1
  obtain ⟨u3, _, j3, _, rfl, rfl, o3, hO3⟩ := oc_lst hO2
  clear hO2
  obtain ⟨_, rfl, hO4⟩ := oc_bool hO3
  clear hO3
  obtain ⟨u5, _, j5, _, rfl, rfl, o5, hO5⟩ := oc_lst hO4
  clear hO4
  obtain ⟨_, rfl, hO6⟩ := oc_int hO5
  clear hO5
  obtain ⟨rfl, rfl⟩ := oc_nil hO6
  have l3 := mk_le (mt := markTxt) (k := k) (t := n3)
  have l5 := mk_le (mt := markTxt) (k := (T.mk markTxt k n3).2) (t := n5)
  refine acalls_of Try.func58 (by decide +kernel) (code := Try.f58.body.getD .skip) (n := 14) (c := c_laws_markGateObject) (rs := [(.tmp 4)]) rfl rfl k_laws_markGateObject (by kernel_rfl) (by simp) (fun hσ => ?_)
  obtain ⟨nd3, rest3, dj3, dk3⟩ := nd_app hnd
  obtain ⟨nd5, rest5, dj5, dk5⟩ := nd_app rest3
  have U3 : Own σ n3 u3 j3 := o3
  have N3 := nd3
  have lt3 := U3.lt
  have U5 : Own σ n5 u5 j5 := o5
  have N5 := nd5
  have lt5 := U5.lt
  simp (maxSteps := 4000000) -implicitDefEqProofs only [c_laws_markGateObject, one_cells o3.one, o3.one, one_cells o5.one, o5.one, S0, S1, S2, S3, S4, S5, S6, S7, S8, S9, S10, S11, S12, S13, S14, S15, S16, S17, opv, opvs, eget, env0, setD, lenStr, lenSl, isNilP, isNilS, putAt, if_true, if_false, reduceCtorEq, Nat.reduceLeDiff, Nat.reduceEqDiff, Nat.reduceSub, Nat.reduceMul, Nat.reduceAdd]
  refine call_by (by rw [List.append_nil]; exact markStringS n3 u3 j3 k _ b3 (by omega) (U3.pre (List.prefix_append _ _)) N3 (by omega) (by omega)) ?_
  rintro r' σ3 ⟨rfl, q3, y3, f3⟩
  have eb3 := f3 σ.length (by first | simp | (simp only [List.length_append, List.length_cons, List.length_nil] at *; omega)) (fun h => Nat.lt_irrefl _ (lt3 _ h))
  rw [q_app_get0] at eb3
  simp only [List.getElem?_cons_zero] at eb3
  simp (maxSteps := 4000000) -implicitDefEqProofs only [eb3, one_cells o3.one, o3.one, one_cells o5.one, o5.one, S0, S1, S2, S3, S4, S5, S6, S7, S8, S9, S10, S11, S12, S13, S14, S15, S16, S17, opv, opvs, eget, env0, setD, lenStr, lenSl, isNilP, isNilS, putAt, if_true, if_false, reduceCtorEq, Nat.reduceLeDiff, Nat.reduceEqDiff, Nat.reduceSub, Nat.reduceMul, Nat.reduceAdd]
  refine call_by (by rw [List.append_nil]; exact markStringS n5 u5 j5 (T.mk markTxt k n3).2 _ b5 (by omega) ((U5.pre (List.prefix_append _ _)).other f3 (by intro x hx h; (try simp only [List.mem_append, List.not_mem_nil, or_false] at hx); (try simp only [List.mem_append, List.not_mem_nil, or_false] at h); exact dj3 x h (by simp [hx]))) N5 (by omega) (by omega)) ?_
  rintro r' σ5 ⟨rfl, q5, y5, f5⟩
  have eb5 := f5 σ.length (by first | simp | (simp only [List.length_append, List.length_cons, List.length_nil] at *; omega)) (fun h => Nat.lt_irrefl _ (lt5 _ h))
  rw [eb3] at eb5
  simp (maxSteps := 4000000) -implicitDefEqProofs only [eb5, eb3, one_cells o3.one, o3.one, one_cells o5.one, o5.one, S0, S1, S2, S3, S4, S5, S6, S7, S8, S9, S10, S11, S12, S13, S14, S15, S16, S17, opv, opvs, eget, env0, setD, lenStr, lenSl, isNilP, isNilS, putAt, if_true, if_false, reduceCtorEq, Nat.reduceLeDiff, Nat.reduceEqDiff, Nat.reduceSub, Nat.reduceMul, Nat.reduceAdd]
  have hf : OwnL _ [.str n0, .str n1, .str n2, (T.mk markTxt k n3).1, .bool n4, (T.mk markTxt (T.mk markTxt k n3).2 n5).1, .int .i64 n6] [.t (.str n0), .t (.str n1), .t (.str n2), u3, .t (.bool n4), u5, .t (.int .i64 n6)] _ := (OwnL.str (OwnL.str (OwnL.str (OwnL.lst (q3.other f5 (by intro x hx h; (try simp only [List.mem_append, List.not_mem_nil, or_false] at hx); (try simp only [List.mem_append, List.not_mem_nil, or_false] at h); exact dj3 x hx (by simp [h]))) (OwnL.bool (OwnL.lst q5 (OwnL.int OwnL.nil0)))))))
  try simp only [List.append_assoc, List.append_nil, List.nil_append] at hf
  try simp only [List.append_assoc, List.append_nil, List.nil_append]
  simp only [List.length_append, List.length_cons, List.length_nil] at y3 y5
  refine fin_keep (by omega) ⟨by simp [mkRes], hf, by omega, fun j hj hn => ?_⟩
  try simp only [List.mem_append, List.not_mem_nil, not_or, not_false_eq_true, and_true, or_false] at hn
  rw [f5 j (by first | omega | (simp only [List.length_append, List.length_cons, List.length_nil]; omega)) (by first | exact hn | simp [hn])]
  rw [f3 j (by first | omega | (simp only [List.length_append, List.length_cons, List.length_nil]; omega)) (by first | exact hn | simp [hn])]
  rw [List.getElem?_append_left hj]
def c_laws_heldGateObject : C := (.seq (.ops [⟨(some 2), none, (.box (.t 0))⟩, ⟨(some 4), none, (.mv (.c (.t (.int .i64 0))))⟩]) (.seq (.ops [⟨(some 5), none, (.fieldAddr 3 (.t 2))⟩, ⟨(some 6), none, (.load none (.t 5))⟩, ⟨(some 7), none, (.mv (.t 1))⟩, ⟨(some 8), none, (.call (.c (.fn (.func 118) [])) [(.t 6), (.t 7)])⟩, ⟨(some 1), none, (.mv (.t 8))⟩]) (.seq (.seq (.ops [⟨(some 9), none, (.mv (.t 1))⟩, ⟨(some 10), none, (.bin .lss (.t 9) (.c (.t (.int .i64 0))))⟩]) (.cond (.t 10) (.seq (.ops [⟨(some 4), none, (.mv (.c (.t (.int .i64 (-1)))))⟩]) .ret) .skip)) (.seq (.ops [⟨(some 11), none, (.fieldAddr 5 (.t 2))⟩, ⟨(some 12), none, (.load none (.t 11))⟩, ⟨(some 13), none, (.mv (.t 1))⟩, ⟨(some 14), none, (.call (.c (.fn (.func 118) [])) [(.t 12), (.t 13)])⟩, ⟨(some 1), none, (.mv (.t 14))⟩]) (.seq (.seq (.ops [⟨(some 15), none, (.mv (.t 1))⟩, ⟨(some 16), none, (.bin .lss (.t 15) (.c (.t (.int .i64 0))))⟩]) (.cond (.t 16) (.seq (.ops [⟨(some 4), none, (.mv (.c (.t (.int .i64 (-1)))))⟩]) .ret) .skip)) (.seq (.ops [⟨(some 17), none, (.mv (.t 1))⟩, ⟨(some 4), none, (.mv (.t 17))⟩]) .ret))))))
theorem k_laws_heldGateObject : comp Try.prog 18 (Try.f59.body.getD .skip) = some c_laws_heldGateObject := by kernel_rfl

theorem heldGateObject : HeldLOk Try.prog markTxt 59 shGateObject := by
  rintro ts k σ hT hz hk hlt
  obtain ⟨n0, n1, n2, n3, n4, n5, n6, rfl, b0, b1, b2, b3, b5, b6⟩ := isGateObject hT
  rw [sizeGateObject] at hz
  have hm : T.mkVL markTxt k [.str n0, .str n1, .str n2, n3, .bool n4, n5, .int .i64 n6] = ([.str n0, .str n1, .str n2, (T.mk markTxt k n3).1, .bool n4, (T.mk markTxt (T.mk markTxt k n3).2 n5).1, .int .i64 n6], (T.mk markTxt (T.mk markTxt k n3).2 n5).2) := by simp only [mkVL_cons, mkVL_nil, mkV_int, mkV_bool, mkV_str, mkV_sl b3, mkV_sl b5]
  rw [hm] at hlt ⊢
  simp only at hlt ⊢
  clear hm
  have l3 := mk_le (mt := markTxt) (k := k) (t := n3)
  have l5 := mk_le (mt := markTxt) (k := (T.mk markTxt k n3).2) (t := n5)
  refine acalls_of Try.func59 (by decide +kernel) (code := Try.f59.body.getD .skip) (n := 18) (c := c_laws_heldGateObject) (rs := [(.tmp 4)]) rfl rfl k_laws_heldGateObject (by kernel_rfl) (by simp) (fun hσ => ?_)
  have H3 := fun σ' => heldStringS n3 k σ' b3 (by omega) (by omega) (by omega)
  have H5 := fun σ' => heldStringS n5 (T.mk markTxt k n3).2 σ' b5 (by omega) (by omega) (by omega)
  simp (maxSteps := 4000000) -implicitDefEqProofs only [c_laws_heldGateObject, nat_neg, S0, S1, S2, S3, S4, S5, S6, S7, S8, S9, S10, S11, S12, S13, S14, S15, S16, S17, opv, opvs, eget, env0, setD, lenStr, lenSl, isNilP, isNilS, putAt, if_true, if_false, reduceCtorEq, Nat.reduceLeDiff, Nat.reduceEqDiff, Nat.reduceSub, Nat.reduceMul, Nat.reduceAdd]
  refine call_pure (H3 _) ?_
  simp (maxSteps := 4000000) -implicitDefEqProofs only [nat_neg, S0, S1, S2, S3, S4, S5, S6, S7, S8, S9, S10, S11, S12, S13, S14, S15, S16, S17, opv, opvs, eget, env0, setD, lenStr, lenSl, isNilP, isNilS, putAt, if_true, if_false, reduceCtorEq, Nat.reduceLeDiff, Nat.reduceEqDiff, Nat.reduceSub, Nat.reduceMul, Nat.reduceAdd]
  refine call_pure (H5 _) ?_
  simp (maxSteps := 4000000) -implicitDefEqProofs only [nat_neg, S0, S1, S2, S3, S4, S5, S6, S7, S8, S9, S10, S11, S12, S13, S14, S15, S16, S17, opv, opvs, eget, env0, setD, lenStr, lenSl, isNilP, isNilS, putAt, if_true, if_false, reduceCtorEq, Nat.reduceLeDiff, Nat.reduceEqDiff, Nat.reduceSub, Nat.reduceMul, Nat.reduceAdd]
  exact ret_same rfl hσ rfl ⟨rfl, rfl⟩
end Go.Proofs.Ytgdmgoidfglobaa.W

end
