/- The marks' text. Conditions: none. -/
/- Marks and looks at them again, for these structs (printed by marks.py). Conditions: none. -/
import Derived.Test.YtkppdeobinefbaaDoorAb4
import Derived.IntWalk
import Derived.Test.YtkppdeobinefbaaDoorProg
import Derived.KernelRfl
import Derived.Test.YtkppdeobinefbaaDoorTypesSheetD
set_option linter.unusedSimpArgs false
set_option linter.unusedVariables false
set_option linter.defProp false

section
open Go Go.Ab
namespace Go.Proofs.YtkppdeobinefbaaDoor.W
def c_laws_markText : C := (.seq (.ops [⟨(some 2), none, (.mv (.c (.t (.str []))))⟩]) (.seq (.seq (.ops [⟨(some 4), none, (.mv (.t 0))⟩, ⟨(some 5), none, (.bin .leq (.t 4) (.c (.t (.int .i64 0))))⟩]) (.cond (.t 5) (.seq (.ops [⟨(some 2), none, (.mv (.c (.t (.str [109, 48]))))⟩]) .ret) .skip)) (.seq (.ops [⟨(some 3), none, (.mv (.c (.t (.str []))))⟩]) (.seq (.block 0 (.loop (.seq (.seq (.ops [⟨(some 6), none, (.mv (.t 0))⟩, ⟨(some 7), none, (.bin .gtr (.t 6) (.c (.t (.int .i64 0))))⟩]) (.cond (.t 7) .skip (.exit 0))) (.block 1 (.seq (.ops [⟨(some 8), none, (.mv (.t 0))⟩, ⟨(some 9), none, (.bin .rem (.t 8) (.c (.t (.int .i64 10))))⟩, ⟨(some 10), none, (.bin .add (.c (.t (.int .i64 48))) (.t 9))⟩, ⟨(some 11), none, (.convInt .u8 (.t 10))⟩, ⟨(some 12), none, (.lit none 1 1 [(.t (.int .u8 0))] [⟨0, (.t 11)⟩])⟩, ⟨(some 13), none, (.bytesStr (.t 12))⟩, ⟨(some 14), none, (.mv (.t 3))⟩, ⟨(some 15), none, (.bin .add (.t 13) (.t 14))⟩, ⟨(some 3), none, (.mv (.t 15))⟩]) (.ops [⟨(some 16), none, (.mv (.t 0))⟩, ⟨(some 17), none, (.bin .quo (.t 16) (.c (.t (.int .i64 10))))⟩, ⟨(some 0), none, (.mv (.t 17))⟩])))))) (.seq (.ops [⟨(some 18), none, (.mv (.t 3))⟩, ⟨(some 19), none, (.bin .add (.c (.t (.str [109]))) (.t 18))⟩, ⟨(some 2), none, (.mv (.t 19))⟩]) .ret)))))
theorem k_laws_markText : comp Tryd.prog 20 (Tryd.f51.body.getD .skip) = some c_laws_markText := by kernel_rfl

def digit (k : Nat) : UInt8 := UInt8.ofNat (IntKind.u8.wrap (IntKind.i64.wrap (48 + (k : Int).tmod 10))).toNat
def dec (k : Nat) (o : List UInt8) : List UInt8 := if h : k = 0 then o else dec (k / 10) (digit k :: o)
termination_by k
decreasing_by omega
def markTxt (k : Nat) : List UInt8 := 109 :: dec k []

theorem markText (k : Nat) (h1 : 1 ≤ k) (h2 : k < 2 ^ 62) (σ : Store) : ACalls Tryd.prog 51 [.t (.int .i64 k)] σ fun r σ' => r = .t (.str (markTxt k)) ∧ σ' = σ := by
  refine acalls_of Tryd.func51 (by decide +kernel) (code := Tryd.f51.body.getD .skip) (n := 20) (c := c_laws_markText) (rs := [(.tmp 2)]) rfl rfl k_laws_markText (by kernel_rfl) (by simp) (fun hσ => ?_)
  have hpos : decide ((k : Int) ≤ 0) = false := by simp; omega
  simp -implicitDefEqProofs only [c_laws_markText, hpos, S0, S1, S2, S3, S4, S5, S6, S7, S8, S9, S10, S11, S12, S13, S14, S15, S16, S17, opv, opvs, eget, env0, setD, lenStr, lenSl, isNilP, isNilS, putAt, if_true, if_false, reduceCtorEq, Nat.reduceLeDiff, Nat.reduceEqDiff, Nat.reduceSub, Nat.reduceMul, Nat.reduceAdd]
  refine loop_by [0, 3] σ.length (fun n s' => ∃ j o, n = j ∧ j + o.length ≤ k ∧ dec j o = dec k [] ∧ s' = ⟨.go, [(0, .t (.int .i64 (j : Nat))), (3, .t (.str o))], σ⟩) k (cut_all (Nat.le_refl _)) ⟨k, [], rfl, by simp, rfl, ?_⟩ ?_
  · simp [St.cut, keep, eget]
  · rintro j s' ⟨_, o, rfl, hj, hd, rfl⟩
    simp -implicitDefEqProofs only [S0, S1, S2, S3, S4, S5, S6, S7, S8, S9, S10, S11, S12, S13, S14, S15, S16, S17, opv, opvs, eget, env0, setD, lenStr, lenSl, isNilP, isNilS, putAt, if_true, if_false, reduceCtorEq, Nat.reduceLeDiff, Nat.reduceEqDiff, Nat.reduceSub, Nat.reduceMul, Nat.reduceAdd]
    refine cond_split (fun h => ?_) (fun h => ?_)
    · have hj0 : 0 < j := by simpa using h
      have hdec : dec j o = dec (j / 10) (digit j :: o) := by rw [dec]; simp [show ¬ j = 0 by omega]
      have hq : IntKind.i64.wrap ((j : Int).tdiv 10) = ((j / 10 : Nat) : Int) := by
        rw [show (j : Int).tdiv 10 = ((j / 10 : Nat) : Int) by rw [Int.tdiv_eq_ediv_of_nonneg (by omega)]; omega]
        exact IntWalk.i64_in _ (by omega)
      have hten : ((10 : Int) ≠ 0) = True := by simp
      have hlen : (((1 + o.length : Nat)) : Int) ≤ 9223372036854775807 := by omega
      simp -implicitDefEqProofs only [h, hten, S0, S1, S2, S3, S4, S5, S6, S7, S8, S9, S10, S11, S12, S13, S14, S15, S16, S17, opv, opvs, eget, env0, setD, lenStr, lenSl, isNilP, isNilS, putAt, if_true, if_false, reduceCtorEq, Nat.reduceLeDiff, Nat.reduceEqDiff, Nat.reduceSub, Nat.reduceMul, Nat.reduceAdd]
      refine ⟨by omega, lit_rows ?_⟩
      simp -implicitDefEqProofs only [h, hten, q_rows_r, Option.map_some, hlen, hq, S0, S1, S2, S3, S4, S5, S6, S7, S8, S9, S10, S11, S12, S13, S14, S15, S16, S17, opv, opvs, eget, env0, setD, lenStr, lenSl, isNilP, isNilS, putAt, if_true, if_false, reduceCtorEq, Nat.reduceLeDiff, Nat.reduceEqDiff, Nat.reduceSub, Nat.reduceMul, Nat.reduceAdd]
      refine ⟨cut_all (Nat.le_refl _), j / 10, by omega, j / 10, digit j :: o, rfl, by simp; omega, by rw [← hd, hdec], ?_⟩
      simp [St.cut, keep, eget, digit]
    · simp -implicitDefEqProofs only [h, S0, S1, S2, S3, S4, S5, S6, S7, S8, S9, S10, S11, S12, S13, S14, S15, S16, S17, opv, opvs, eget, env0, setD, lenStr, lenSl, isNilP, isNilS, putAt, if_true, if_false, reduceCtorEq, Nat.reduceLeDiff, Nat.reduceEqDiff, Nat.reduceSub, Nat.reduceMul, Nat.reduceAdd]
      have hj0 : j = 0 := by
        have : ¬ (0 : Int) < j := by simpa using h
        omega
      subst hj0
      have ho : o = dec k [] := by rw [← hd, dec]; simp
      have hlen : (((1 + o.length : Nat)) : Int) ≤ 9223372036854775807 := by omega
      simp -implicitDefEqProofs only [hlen, S0, S1, S2, S3, S4, S5, S6, S7, S8, S9, S10, S11, S12, S13, S14, S15, S16, S17, opv, opvs, eget, env0, setD, lenStr, lenSl, isNilP, isNilS, putAt, if_true, if_false, reduceCtorEq, Nat.reduceLeDiff, Nat.reduceEqDiff, Nat.reduceSub, Nat.reduceMul, Nat.reduceAdd]
      exact ret_same0 rfl ⟨by simp [mkRes, markTxt, ho], rfl⟩
theorem textOk : TextOk Tryd.prog markTxt 51 := fun k σ h1 h2 => markText k h1 (by omega) σ
end Go.Proofs.YtkppdeobinefbaaDoor.W

end


section
open Go Go.Ab
set_option maxHeartbeats 4000000
set_option maxRecDepth 20000
namespace Go.Proofs.YtkppdeobinefbaaDoor.W
def c_markStringS : C := (.seq (.ops [⟨(some 12), none, (.mv (.t 0))⟩, ⟨(some 13), none, (.mv (.t 5))⟩, ⟨(some 14), none, (.mv (.t 1))⟩, ⟨(some 15), none, (.call (.c (.fn (.func 51) [])) [(.t 14)])⟩, ⟨(some 16), none, (.indexAddr 1 (.t 12) (.t 13))⟩, ⟨none, none, (.store 1 (.t 16) (.t 15))⟩]) (.ops [⟨(some 17), none, (.mv (.t 1))⟩, ⟨(some 18), none, (.bin .add (.t 17) (.c (.t (.int .i64 1))))⟩, ⟨(some 1), none, (.mv (.t 18))⟩]))
theorem row_markStringS : RowMark Tryd.prog markTxt 1 c_markStringS [.str] := by
  intro b Q e σ id len i rs row r ji k g0 g5 g1 hl hi hs hr hT hz hO hnd hk hlt hQ
  simp only [isL_cons, isL_nil, is_str] at hT
  obtain ⟨_, _, rfl, ⟨n0, rfl, b0⟩, rfl⟩ := hT
  have hm : T.mkL markTxt k [.str n0] = ([.str (markTxt k)], (k + 1)) := by simp only [mkL_cons, mkL_nil, mkc_int, mkc_bool, mkc_str, Nat.add_assoc, Nat.reduceAdd]
  rw [hm] at hlt hQ
  simp only at hlt hQ
  clear hm
  obtain ⟨_, rfl, hO0⟩ := oc_str hO
  clear hO
  obtain ⟨rfl, rfl⟩ := oc_nil hO0
  have w0 : IntKind.i64.wrap (((k : Nat) : Int) + 1) = (((k + 1) : Nat) : Int) := i64_succ (k := k) (by omega)
  have hidl := (List.getElem?_eq_some_iff.1 hs).1
  have s0 : ∀ o, (σ.set id o)[id]? = some o := fun o => by simp [hidl]
  have rr : ∀ x, (rs.set i x)[i]? = some x := fun x => by simp [hl, hi]
  have hi' : ((i : Nat) : Int) < ((len : Nat) : Int) := by omega
  have three : ((3 : Int) ≠ 0) = True := by simp
  simp (maxSteps := 4000000) -implicitDefEqProofs only [c_markStringS, g0, g5, g1, hs, hr, hl, hi', nat_nn, s0, rr, three, Nat.zero_le, w0, S0, S1, S2, S3, S4, S5, S6, S7, S8, S9, S10, S11, S12, S13, S14, S15, S16, S17, opv, opvs, eget, env0, setD, lenStr, lenSl, isNilP, isNilS, putAt, if_true, if_false, reduceCtorEq, Nat.reduceLeDiff, Nat.reduceEqDiff, Nat.reduceSub, Nat.reduceMul, Nat.reduceAdd]
  refine call_pure (textOk k _ (by omega) (by omega)) ?_
  simp (maxSteps := 4000000) -implicitDefEqProofs only [g0, g5, g1, hs, hr, hl, hi', nat_nn, s0, rr, three, Nat.zero_le, w0, S0, S1, S2, S3, S4, S5, S6, S7, S8, S9, S10, S11, S12, S13, S14, S15, S16, S17, opv, opvs, eget, env0, setD, lenStr, lenSl, isNilP, isNilS, putAt, if_true, if_false, reduceCtorEq, Nat.reduceLeDiff, Nat.reduceEqDiff, Nat.reduceSub, Nat.reduceMul, Nat.reduceAdd]
  refine hQ _ _ [.t (.str (markTxt k))] ?_ ?_ ?_ ?_ ?_ ?_ ?_
  · simp (maxSteps := 4000000) -implicitDefEqProofs only [g0, g5, g1, S0, S1, S2, S3, S4, S5, S6, S7, S8, S9, S10, S11, S12, S13, S14, S15, S16, S17, opv, opvs, eget, env0, setD, lenStr, lenSl, isNilP, isNilS, putAt, if_true, if_false, reduceCtorEq, Nat.reduceLeDiff, Nat.reduceEqDiff, Nat.reduceSub, Nat.reduceMul, Nat.reduceAdd]
  · simp (maxSteps := 4000000) -implicitDefEqProofs only [g0, g5, g1, S0, S1, S2, S3, S4, S5, S6, S7, S8, S9, S10, S11, S12, S13, S14, S15, S16, S17, opv, opvs, eget, env0, setD, lenStr, lenSl, isNilP, isNilS, putAt, if_true, if_false, reduceCtorEq, Nat.reduceLeDiff, Nat.reduceEqDiff, Nat.reduceSub, Nat.reduceMul, Nat.reduceAdd]
  · simp (maxSteps := 4000000) -implicitDefEqProofs only [g0, g5, g1, S0, S1, S2, S3, S4, S5, S6, S7, S8, S9, S10, S11, S12, S13, S14, S15, S16, S17, opv, opvs, eget, env0, setD, lenStr, lenSl, isNilP, isNilS, putAt, if_true, if_false, reduceCtorEq, Nat.reduceLeDiff, Nat.reduceEqDiff, Nat.reduceSub, Nat.reduceMul, Nat.reduceAdd]
  · exact s0 _
  · exact (OwnL.str OwnL.nil0)
  · simp only [List.length_set]
    omega
  · intro j hj hn
    simp only [List.mem_cons, List.mem_append, List.not_mem_nil, not_or, not_false_eq_true, and_true] at hn
    rw [List.getElem?_set_ne (fun e => hn e.symm)]
theorem i_markStringS : Is Tryd.prog 53 20 [(.tmp 4)] (tMarkS 19 c_markStringS) := ⟨_, _, Tryd.func53, by decide +kernel, rfl, rfl, by kernel_rfl, rfl⟩
theorem markStringS : MarkOk Tryd.prog markTxt 53 (.sl 1 [.str]) := markS_ok rfl (by decide) (by decide) i_markStringS row_markStringS
def c_heldStringS : C := (.seq (.seq (.drawn [(.mk 0 false ⟨(some 12), none, (.mv (.t 0))⟩ []), (.mk 1 false ⟨(some 13), none, (.mv (.t 5))⟩ []), (.mk 2 false ⟨(some 14), none, (.indexAddr 1 (.t 12) (.t 13))⟩ []), (.mk 3 false ⟨(some 15), none, (.load none (.t 14))⟩ []), (.mk 4 false ⟨(some 16), none, (.mv (.t 1))⟩ []), (.mk 5 true ⟨(some 17), none, (.call (.c (.fn (.func 51) [])) [(.t 16)])⟩ [⟨(some 14), none, (.indexAddr 1 (.t 12) (.t 13))⟩, ⟨(some 15), none, (.load none (.t 14))⟩]), (.mk 6 false ⟨(some 18), none, (.bin .neq (.t 15) (.t 17))⟩ [])]) (.cond (.t 18) (.seq (.ops [⟨(some 4), none, (.mv (.c (.t (.int .i64 (-1)))))⟩]) .ret) .skip)) (.ops [⟨(some 19), none, (.mv (.t 1))⟩, ⟨(some 20), none, (.bin .add (.t 19) (.c (.t (.int .i64 1))))⟩, ⟨(some 1), none, (.mv (.t 20))⟩]))
theorem row_heldStringS : RowHeld Tryd.prog markTxt 1 c_heldStringS [.str] := by
  intro b Q e σ i rows row k g0 g5 g1 hr hT hz hk hlt hQ
  simp only [isL_cons, isL_nil, is_str] at hT
  obtain ⟨_, _, rfl, ⟨n0, rfl, b0⟩, rfl⟩ := hT
  have hm : T.mkL markTxt k [.str n0] = ([.str (markTxt k)], (k + 1)) := by simp only [mkL_cons, mkL_nil, mkc_int, mkc_bool, mkc_str, Nat.add_assoc, Nat.reduceAdd]
  rw [hm] at hlt hQ hr
  simp only at hlt hQ hr
  clear hm
  have w0 : IntKind.i64.wrap (((k : Nat) : Int) + 1) = (((k + 1) : Nat) : Int) := i64_succ (k := k) (by omega)
  have three : ((3 : Int) ≠ 0) = True := by simp
  simp (maxSteps := 4000000) -implicitDefEqProofs only [c_heldStringS, g0, g5, g1, hr, nat_nn, three, nat_neg, ne_self, beq_self_eq_true, Nat.zero_le, w0, S0, S1, S2, S3, S4, S5, S6, S7, S8, S9, S10, S11, S12, S13, S14, S15, S16, S17, opv, opvs, eget, env0, setD, lenStr, lenSl, isNilP, isNilS, putAt, if_true, if_false, reduceCtorEq, Nat.reduceLeDiff, Nat.reduceEqDiff, Nat.reduceSub, Nat.reduceMul, Nat.reduceAdd]
  refine call_pure (textOk k _ (by omega) (by omega)) ?_
  simp (maxSteps := 4000000) -implicitDefEqProofs only [g0, g5, g1, hr, nat_nn, three, nat_neg, ne_self, beq_self_eq_true, Nat.zero_le, w0, S0, S1, S2, S3, S4, S5, S6, S7, S8, S9, S10, S11, S12, S13, S14, S15, S16, S17, opv, opvs, eget, env0, setD, lenStr, lenSl, isNilP, isNilS, putAt, if_true, if_false, reduceCtorEq, Nat.reduceLeDiff, Nat.reduceEqDiff, Nat.reduceSub, Nat.reduceMul, Nat.reduceAdd]
  refine hQ _ ?_ ?_ ?_ <;> simp (maxSteps := 4000000) -implicitDefEqProofs only [g0, g5, g1, S0, S1, S2, S3, S4, S5, S6, S7, S8, S9, S10, S11, S12, S13, S14, S15, S16, S17, opv, opvs, eget, env0, setD, lenStr, lenSl, isNilP, isNilS, putAt, if_true, if_false, reduceCtorEq, Nat.reduceLeDiff, Nat.reduceEqDiff, Nat.reduceSub, Nat.reduceMul, Nat.reduceAdd]
theorem i_heldStringS : Is Tryd.prog 55 22 [(.tmp 4)] (tMarkS 21 c_heldStringS) := ⟨_, _, Tryd.func55, by decide +kernel, rfl, rfl, by kernel_rfl, rfl⟩
theorem heldStringS : HeldOk Tryd.prog markTxt 55 (.sl 1 [.str]) := heldS_ok rfl (by decide) (by decide) i_heldStringS row_heldStringS
def c_markIntS : C := (.seq (.ops [⟨(some 12), none, (.mv (.t 0))⟩, ⟨(some 13), none, (.mv (.t 5))⟩, ⟨(some 14), none, (.mv (.t 1))⟩, ⟨(some 15), none, (.indexAddr 1 (.t 12) (.t 13))⟩, ⟨none, none, (.store 1 (.t 15) (.t 14))⟩]) (.ops [⟨(some 16), none, (.mv (.t 1))⟩, ⟨(some 17), none, (.bin .add (.t 16) (.c (.t (.int .i64 1))))⟩, ⟨(some 1), none, (.mv (.t 17))⟩]))
theorem row_markIntS : RowMark Tryd.prog markTxt 1 c_markIntS [.int .i64] := by
  intro b Q e σ id len i rs row r ji k g0 g5 g1 hl hi hs hr hT hz hO hnd hk hlt hQ
  simp only [isL_cons, isL_nil, is_int] at hT
  obtain ⟨_, _, rfl, ⟨n0, rfl, b0⟩, rfl⟩ := hT
  have hm : T.mkL markTxt k [.int .i64 n0] = ([.int .i64 ((k : Nat) : Int)], (k + 1)) := by simp only [mkL_cons, mkL_nil, mkc_int, mkc_bool, mkc_str, Nat.add_assoc, Nat.reduceAdd]
  rw [hm] at hlt hQ
  simp only at hlt hQ
  clear hm
  obtain ⟨_, rfl, hO0⟩ := oc_int hO
  clear hO
  obtain ⟨rfl, rfl⟩ := oc_nil hO0
  have w0 : IntKind.i64.wrap (((k : Nat) : Int) + 1) = (((k + 1) : Nat) : Int) := i64_succ (k := k) (by omega)
  have hidl := (List.getElem?_eq_some_iff.1 hs).1
  have s0 : ∀ o, (σ.set id o)[id]? = some o := fun o => by simp [hidl]
  have rr : ∀ x, (rs.set i x)[i]? = some x := fun x => by simp [hl, hi]
  have hi' : ((i : Nat) : Int) < ((len : Nat) : Int) := by omega
  have three : ((3 : Int) ≠ 0) = True := by simp
  simp (maxSteps := 4000000) -implicitDefEqProofs only [c_markIntS, g0, g5, g1, hs, hr, hl, hi', nat_nn, s0, rr, three, Nat.zero_le, w0, S0, S1, S2, S3, S4, S5, S6, S7, S8, S9, S10, S11, S12, S13, S14, S15, S16, S17, opv, opvs, eget, env0, setD, lenStr, lenSl, isNilP, isNilS, putAt, if_true, if_false, reduceCtorEq, Nat.reduceLeDiff, Nat.reduceEqDiff, Nat.reduceSub, Nat.reduceMul, Nat.reduceAdd]
  refine hQ _ _ [.t (.int .i64 ((k : Nat) : Int))] ?_ ?_ ?_ ?_ ?_ ?_ ?_
  · simp (maxSteps := 4000000) -implicitDefEqProofs only [g0, g5, g1, S0, S1, S2, S3, S4, S5, S6, S7, S8, S9, S10, S11, S12, S13, S14, S15, S16, S17, opv, opvs, eget, env0, setD, lenStr, lenSl, isNilP, isNilS, putAt, if_true, if_false, reduceCtorEq, Nat.reduceLeDiff, Nat.reduceEqDiff, Nat.reduceSub, Nat.reduceMul, Nat.reduceAdd]
  · simp (maxSteps := 4000000) -implicitDefEqProofs only [g0, g5, g1, S0, S1, S2, S3, S4, S5, S6, S7, S8, S9, S10, S11, S12, S13, S14, S15, S16, S17, opv, opvs, eget, env0, setD, lenStr, lenSl, isNilP, isNilS, putAt, if_true, if_false, reduceCtorEq, Nat.reduceLeDiff, Nat.reduceEqDiff, Nat.reduceSub, Nat.reduceMul, Nat.reduceAdd]
  · simp (maxSteps := 4000000) -implicitDefEqProofs only [g0, g5, g1, S0, S1, S2, S3, S4, S5, S6, S7, S8, S9, S10, S11, S12, S13, S14, S15, S16, S17, opv, opvs, eget, env0, setD, lenStr, lenSl, isNilP, isNilS, putAt, if_true, if_false, reduceCtorEq, Nat.reduceLeDiff, Nat.reduceEqDiff, Nat.reduceSub, Nat.reduceMul, Nat.reduceAdd]
  · exact s0 _
  · exact (OwnL.int OwnL.nil0)
  · simp only [List.length_set]
    omega
  · intro j hj hn
    simp only [List.mem_cons, List.mem_append, List.not_mem_nil, not_or, not_false_eq_true, and_true] at hn
    rw [List.getElem?_set_ne (fun e => hn e.symm)]
theorem i_markIntS : Is Tryd.prog 52 19 [(.tmp 4)] (tMarkS 18 c_markIntS) := ⟨_, _, Tryd.func52, by decide +kernel, rfl, rfl, by kernel_rfl, rfl⟩
theorem markIntS : MarkOk Tryd.prog markTxt 52 (.sl 1 [.int .i64]) := markS_ok rfl (by decide) (by decide) i_markIntS row_markIntS
def c_heldIntS : C := (.seq (.seq (.ops [⟨(some 12), none, (.mv (.t 0))⟩, ⟨(some 13), none, (.mv (.t 5))⟩, ⟨(some 14), none, (.indexAddr 1 (.t 12) (.t 13))⟩, ⟨(some 15), none, (.load none (.t 14))⟩, ⟨(some 16), none, (.mv (.t 1))⟩, ⟨(some 17), none, (.bin .neq (.t 15) (.t 16))⟩]) (.cond (.t 17) (.seq (.ops [⟨(some 4), none, (.mv (.c (.t (.int .i64 (-1)))))⟩]) .ret) .skip)) (.ops [⟨(some 18), none, (.mv (.t 1))⟩, ⟨(some 19), none, (.bin .add (.t 18) (.c (.t (.int .i64 1))))⟩, ⟨(some 1), none, (.mv (.t 19))⟩]))
theorem row_heldIntS : RowHeld Tryd.prog markTxt 1 c_heldIntS [.int .i64] := by
  intro b Q e σ i rows row k g0 g5 g1 hr hT hz hk hlt hQ
  simp only [isL_cons, isL_nil, is_int] at hT
  obtain ⟨_, _, rfl, ⟨n0, rfl, b0⟩, rfl⟩ := hT
  have hm : T.mkL markTxt k [.int .i64 n0] = ([.int .i64 ((k : Nat) : Int)], (k + 1)) := by simp only [mkL_cons, mkL_nil, mkc_int, mkc_bool, mkc_str, Nat.add_assoc, Nat.reduceAdd]
  rw [hm] at hlt hQ hr
  simp only at hlt hQ hr
  clear hm
  have w0 : IntKind.i64.wrap (((k : Nat) : Int) + 1) = (((k + 1) : Nat) : Int) := i64_succ (k := k) (by omega)
  have three : ((3 : Int) ≠ 0) = True := by simp
  simp (maxSteps := 4000000) -implicitDefEqProofs only [c_heldIntS, g0, g5, g1, hr, nat_nn, three, nat_neg, ne_self, beq_self_eq_true, Nat.zero_le, w0, S0, S1, S2, S3, S4, S5, S6, S7, S8, S9, S10, S11, S12, S13, S14, S15, S16, S17, opv, opvs, eget, env0, setD, lenStr, lenSl, isNilP, isNilS, putAt, if_true, if_false, reduceCtorEq, Nat.reduceLeDiff, Nat.reduceEqDiff, Nat.reduceSub, Nat.reduceMul, Nat.reduceAdd]
  refine hQ _ ?_ ?_ ?_ <;> simp (maxSteps := 4000000) -implicitDefEqProofs only [g0, g5, g1, S0, S1, S2, S3, S4, S5, S6, S7, S8, S9, S10, S11, S12, S13, S14, S15, S16, S17, opv, opvs, eget, env0, setD, lenStr, lenSl, isNilP, isNilS, putAt, if_true, if_false, reduceCtorEq, Nat.reduceLeDiff, Nat.reduceEqDiff, Nat.reduceSub, Nat.reduceMul, Nat.reduceAdd]
theorem i_heldIntS : Is Tryd.prog 54 21 [(.tmp 4)] (tMarkS 20 c_heldIntS) := ⟨_, _, Tryd.func54, by decide +kernel, rfl, rfl, by kernel_rfl, rfl⟩
theorem heldIntS : HeldOk Tryd.prog markTxt 54 (.sl 1 [.int .i64]) := heldS_ok rfl (by decide) (by decide) i_heldIntS row_heldIntS
def c_markSheetRuleS : C := (.seq (.ops [⟨(some 12), none, (.mv (.t 0))⟩, ⟨(some 13), none, (.mv (.t 5))⟩, ⟨(some 14), none, (.mv (.t 1))⟩, ⟨(some 15), none, (.call (.c (.fn (.func 51) [])) [(.t 14)])⟩, ⟨(some 16), none, (.indexAddr 4 (.t 12) (.t 13))⟩, ⟨(some 17), none, (.fieldAddr 0 (.t 16))⟩, ⟨none, none, (.store 1 (.t 17) (.t 15))⟩]) (.seq (.ops [⟨(some 18), none, (.mv (.t 1))⟩, ⟨(some 19), none, (.bin .add (.t 18) (.c (.t (.int .i64 1))))⟩, ⟨(some 1), none, (.mv (.t 19))⟩]) (.seq (.ops [⟨(some 20), none, (.mv (.t 0))⟩, ⟨(some 21), none, (.mv (.t 5))⟩, ⟨(some 22), none, (.indexAddr 4 (.t 20) (.t 21))⟩, ⟨(some 23), none, (.fieldAddr 1 (.t 22))⟩, ⟨(some 24), none, (.load none (.t 23))⟩, ⟨(some 25), none, (.mv (.t 1))⟩, ⟨(some 26), none, (.call (.c (.fn (.func 52) [])) [(.t 24), (.t 25)])⟩, ⟨(some 1), none, (.mv (.t 26))⟩]) (.seq (.ops [⟨(some 27), none, (.mv (.t 0))⟩, ⟨(some 28), none, (.mv (.t 5))⟩, ⟨(some 29), none, (.mv (.t 1))⟩, ⟨(some 30), none, (.bin .rem (.t 29) (.c (.t (.int .i64 3))))⟩, ⟨(some 31), none, (.bin .eql (.t 30) (.c (.t (.int .i64 0))))⟩, ⟨(some 32), none, (.indexAddr 4 (.t 27) (.t 28))⟩, ⟨(some 33), none, (.fieldAddr 2 (.t 32))⟩, ⟨none, none, (.store 1 (.t 33) (.t 31))⟩]) (.seq (.ops [⟨(some 34), none, (.mv (.t 1))⟩, ⟨(some 35), none, (.bin .add (.t 34) (.c (.t (.int .i64 1))))⟩, ⟨(some 1), none, (.mv (.t 35))⟩]) (.ops [⟨(some 36), none, (.mv (.t 0))⟩, ⟨(some 37), none, (.mv (.t 5))⟩, ⟨(some 38), none, (.indexAddr 4 (.t 36) (.t 37))⟩, ⟨(some 39), none, (.fieldAddr 3 (.t 38))⟩, ⟨(some 40), none, (.load none (.t 39))⟩, ⟨(some 41), none, (.mv (.t 1))⟩, ⟨(some 42), none, (.call (.c (.fn (.func 53) [])) [(.t 40), (.t 41)])⟩, ⟨(some 1), none, (.mv (.t 42))⟩]))))))
theorem row_markSheetRuleS : RowMark Tryd.prog markTxt 4 c_markSheetRuleS shSheetRule := by
  intro b Q e σ id len i rs row r ji k g0 g5 g1 hl hi hs hr hT hz hO hnd hk hlt hQ
  obtain ⟨n0, n1, n2, n3, rfl, b0, b1, b3⟩ := isSheetRule hT
  rw [sizeSheetRule] at hz
  have hm : T.mkL markTxt k [.str n0, n1, .bool n2, n3] = ([.str (markTxt k), (T.mk markTxt (k + 1) n1).1, .bool ((((T.mk markTxt (k + 1) n1).2 : Nat) : Int).tmod 3 == 0), (T.mk markTxt ((T.mk markTxt (k + 1) n1).2 + 1) n3).1], (T.mk markTxt ((T.mk markTxt (k + 1) n1).2 + 1) n3).2) := by simp only [mkL_cons, mkL_nil, mkc_int, mkc_bool, mkc_str, Nat.add_assoc, Nat.reduceAdd]
  rw [hm] at hlt hQ
  simp only at hlt hQ
  clear hm
  obtain ⟨_, rfl, hO0⟩ := oc_str hO
  clear hO
  obtain ⟨u1, _, j1, _, rfl, rfl, o1, hO1⟩ := oc_lst hO0
  clear hO0
  obtain ⟨_, rfl, hO2⟩ := oc_bool hO1
  clear hO1
  obtain ⟨u3, _, j3, _, rfl, rfl, o3, hO3⟩ := oc_lst hO2
  clear hO2
  obtain ⟨rfl, rfl⟩ := oc_nil hO3
  have l1 := mk_le (mt := markTxt) (k := (k + 1)) (t := n1)
  have l3 := mk_le (mt := markTxt) (k := ((T.mk markTxt (k + 1) n1).2 + 1)) (t := n3)
  have w0 : IntKind.i64.wrap (((k : Nat) : Int) + 1) = (((k + 1) : Nat) : Int) := i64_succ (k := k) (by omega)
  have w2 : IntKind.i64.wrap ((((T.mk markTxt (k + 1) n1).2 : Nat) : Int) + 1) = ((((T.mk markTxt (k + 1) n1).2 + 1) : Nat) : Int) := i64_succ (k := (T.mk markTxt (k + 1) n1).2) (by omega)
  have hidl := (List.getElem?_eq_some_iff.1 hs).1
  have s0 : ∀ o, (σ.set id o)[id]? = some o := fun o => by simp [hidl]
  have rr : ∀ x, (rs.set i x)[i]? = some x := fun x => by simp [hl, hi]
  have hi' : ((i : Nat) : Int) < ((len : Nat) : Int) := by omega
  have three : ((3 : Int) ≠ 0) = True := by simp
  obtain ⟨nid, nd⟩ := List.nodup_cons.1 hnd
  simp only [List.mem_append, not_or, List.not_mem_nil, not_false_eq_true, and_true] at nid
  obtain ⟨nd1, rest1, dj1, dk1⟩ := nd_app nd
  obtain ⟨nd3, rest3, dj3, dk3⟩ := nd_app rest1
  have ni1 : id ∉ j1 := nid.1
  have ni3 : id ∉ j3 := nid.2
  simp (maxSteps := 4000000) -implicitDefEqProofs only [c_markSheetRuleS, g0, g5, g1, hs, hr, hl, hi', nat_nn, s0, rr, three, Nat.zero_le, w0, w2, one_cells o1.one, o1.one, one_cells o3.one, o3.one, S0, S1, S2, S3, S4, S5, S6, S7, S8, S9, S10, S11, S12, S13, S14, S15, S16, S17, opv, opvs, eget, env0, setD, lenStr, lenSl, isNilP, isNilS, putAt, if_true, if_false, reduceCtorEq, Nat.reduceLeDiff, Nat.reduceEqDiff, Nat.reduceSub, Nat.reduceMul, Nat.reduceAdd]
  refine call_pure (textOk k _ (by omega) (by omega)) ?_
  simp (maxSteps := 4000000) -implicitDefEqProofs only [g0, g5, g1, hs, hr, hl, hi', nat_nn, s0, rr, three, Nat.zero_le, w0, w2, one_cells o1.one, o1.one, one_cells o3.one, o3.one, S0, S1, S2, S3, S4, S5, S6, S7, S8, S9, S10, S11, S12, S13, S14, S15, S16, S17, opv, opvs, eget, env0, setD, lenStr, lenSl, isNilP, isNilS, putAt, if_true, if_false, reduceCtorEq, Nat.reduceLeDiff, Nat.reduceEqDiff, Nat.reduceSub, Nat.reduceMul, Nat.reduceAdd]
  refine call_by (by rw [List.append_nil]; exact markIntS n1 u1 j1 (k + 1) _ b1 (by omega) (o1.set ni1) nd1 (by omega) (by omega)) ?_
  rintro r' σ1 ⟨rfl, q1, y1, f1⟩
  have e1 := f1 id (by (try simp only [List.length_set]); exact hidl) ni1
  first | rw [s0] at e1 | rw [hs] at e1
  have h1 := (List.getElem?_eq_some_iff.1 e1).1
  have s1 : ∀ o, (σ1.set id o)[id]? = some o := fun o => by simp [h1]
  simp (maxSteps := 4000000) -implicitDefEqProofs only [s1, e1, g0, g5, g1, hs, hr, hl, hi', nat_nn, s0, rr, three, Nat.zero_le, w0, w2, one_cells o1.one, o1.one, one_cells o3.one, o3.one, S0, S1, S2, S3, S4, S5, S6, S7, S8, S9, S10, S11, S12, S13, S14, S15, S16, S17, opv, opvs, eget, env0, setD, lenStr, lenSl, isNilP, isNilS, putAt, if_true, if_false, reduceCtorEq, Nat.reduceLeDiff, Nat.reduceEqDiff, Nat.reduceSub, Nat.reduceMul, Nat.reduceAdd]
  refine call_by (by rw [List.append_nil]; exact markStringS n3 u3 j3 ((T.mk markTxt (k + 1) n1).2 + 1) _ b3 (by omega) (((o3.set ni3).other f1 (fun x hx h => dj1 x h (by simp [hx]))).set ni3) nd3 (by omega) (by omega)) ?_
  rintro r' σ3 ⟨rfl, q3, y3, f3⟩
  have e3 := f3 id (by (try simp only [List.length_set]); exact h1) ni3
  first | rw [s1] at e3 | rw [e1] at e3
  have h3 := (List.getElem?_eq_some_iff.1 e3).1
  have s3 : ∀ o, (σ3.set id o)[id]? = some o := fun o => by simp [h3]
  simp (maxSteps := 4000000) -implicitDefEqProofs only [s1, e1, s3, e3, g0, g5, g1, hs, hr, hl, hi', nat_nn, s0, rr, three, Nat.zero_le, w0, w2, one_cells o1.one, o1.one, one_cells o3.one, o3.one, S0, S1, S2, S3, S4, S5, S6, S7, S8, S9, S10, S11, S12, S13, S14, S15, S16, S17, opv, opvs, eget, env0, setD, lenStr, lenSl, isNilP, isNilS, putAt, if_true, if_false, reduceCtorEq, Nat.reduceLeDiff, Nat.reduceEqDiff, Nat.reduceSub, Nat.reduceMul, Nat.reduceAdd]
  refine hQ _ _ [.t (.str (markTxt k)), u1, .t (.bool ((((T.mk markTxt (k + 1) n1).2 : Nat) : Int).tmod 3 == 0)), u3] ?_ ?_ ?_ ?_ ?_ ?_ ?_
  · simp (maxSteps := 4000000) -implicitDefEqProofs only [g0, g5, g1, S0, S1, S2, S3, S4, S5, S6, S7, S8, S9, S10, S11, S12, S13, S14, S15, S16, S17, opv, opvs, eget, env0, setD, lenStr, lenSl, isNilP, isNilS, putAt, if_true, if_false, reduceCtorEq, Nat.reduceLeDiff, Nat.reduceEqDiff, Nat.reduceSub, Nat.reduceMul, Nat.reduceAdd]
  · simp (maxSteps := 4000000) -implicitDefEqProofs only [g0, g5, g1, S0, S1, S2, S3, S4, S5, S6, S7, S8, S9, S10, S11, S12, S13, S14, S15, S16, S17, opv, opvs, eget, env0, setD, lenStr, lenSl, isNilP, isNilS, putAt, if_true, if_false, reduceCtorEq, Nat.reduceLeDiff, Nat.reduceEqDiff, Nat.reduceSub, Nat.reduceMul, Nat.reduceAdd]
  · simp (maxSteps := 4000000) -implicitDefEqProofs only [g0, g5, g1, S0, S1, S2, S3, S4, S5, S6, S7, S8, S9, S10, S11, S12, S13, S14, S15, S16, S17, opv, opvs, eget, env0, setD, lenStr, lenSl, isNilP, isNilS, putAt, if_true, if_false, reduceCtorEq, Nat.reduceLeDiff, Nat.reduceEqDiff, Nat.reduceSub, Nat.reduceMul, Nat.reduceAdd]
  · exact e3
  · exact (OwnL.str (OwnL.lst ((q1.set ni1).other f3 (fun x hx => fun h => dj1 x hx (by simp [h]))) (OwnL.bool (OwnL.lst q3 OwnL.nil0))))
  · simp only [List.length_set] at y1 y3 ⊢
    omega
  · intro j hj hn
    simp only [List.mem_cons, List.mem_append, List.not_mem_nil, not_or, not_false_eq_true, and_true] at hn
    rw [f3 j (by simp only [List.length_set] at y1 y3 ⊢; omega) hn.2.2]
    rw [List.getElem?_set_ne (fun e => hn.1 e.symm)]
    rw [f1 j (by simp only [List.length_set] at y1 y3 ⊢; omega) hn.2.1]
    rw [List.getElem?_set_ne (fun e => hn.1 e.symm)]
theorem i_markSheetRuleS : Is Tryd.prog 15 44 [(.tmp 4)] (tMarkS 43 c_markSheetRuleS) := ⟨_, _, Tryd.func15, by decide +kernel, rfl, rfl, by kernel_rfl, rfl⟩
theorem markSheetRuleS : MarkOk Tryd.prog markTxt 15 (.sl 4 shSheetRule) := markS_ok rfl (by decide) (by decide) i_markSheetRuleS row_markSheetRuleS
def c_heldSheetRuleS : C := (.seq (.seq (.drawn [(.mk 0 false ⟨(some 12), none, (.mv (.t 0))⟩ []), (.mk 1 false ⟨(some 13), none, (.mv (.t 5))⟩ []), (.mk 2 false ⟨(some 14), none, (.indexAddr 4 (.t 12) (.t 13))⟩ []), (.mk 3 false ⟨(some 15), none, (.fieldAddr 0 (.t 14))⟩ []), (.mk 4 false ⟨(some 16), none, (.load none (.t 15))⟩ []), (.mk 5 false ⟨(some 17), none, (.mv (.t 1))⟩ []), (.mk 6 true ⟨(some 18), none, (.call (.c (.fn (.func 51) [])) [(.t 17)])⟩ [⟨(some 14), none, (.indexAddr 4 (.t 12) (.t 13))⟩, ⟨(some 16), none, (.load none (.t 15))⟩]), (.mk 7 false ⟨(some 19), none, (.bin .neq (.t 16) (.t 18))⟩ [])]) (.cond (.t 19) (.seq (.ops [⟨(some 4), none, (.mv (.c (.t (.int .i64 (-1)))))⟩]) .ret) .skip)) (.seq (.ops [⟨(some 20), none, (.mv (.t 1))⟩, ⟨(some 21), none, (.bin .add (.t 20) (.c (.t (.int .i64 1))))⟩, ⟨(some 1), none, (.mv (.t 21))⟩]) (.seq (.ops [⟨(some 22), none, (.mv (.t 0))⟩, ⟨(some 23), none, (.mv (.t 5))⟩, ⟨(some 24), none, (.indexAddr 4 (.t 22) (.t 23))⟩, ⟨(some 25), none, (.fieldAddr 1 (.t 24))⟩, ⟨(some 26), none, (.load none (.t 25))⟩, ⟨(some 27), none, (.mv (.t 1))⟩, ⟨(some 28), none, (.call (.c (.fn (.func 54) [])) [(.t 26), (.t 27)])⟩, ⟨(some 1), none, (.mv (.t 28))⟩]) (.seq (.seq (.ops [⟨(some 29), none, (.mv (.t 1))⟩, ⟨(some 30), none, (.bin .lss (.t 29) (.c (.t (.int .i64 0))))⟩]) (.cond (.t 30) (.seq (.ops [⟨(some 4), none, (.mv (.c (.t (.int .i64 (-1)))))⟩]) .ret) .skip)) (.seq (.seq (.ops [⟨(some 31), none, (.mv (.t 0))⟩, ⟨(some 32), none, (.mv (.t 5))⟩, ⟨(some 33), none, (.indexAddr 4 (.t 31) (.t 32))⟩, ⟨(some 34), none, (.fieldAddr 2 (.t 33))⟩, ⟨(some 35), none, (.load none (.t 34))⟩, ⟨(some 36), none, (.mv (.t 1))⟩, ⟨(some 37), none, (.bin .rem (.t 36) (.c (.t (.int .i64 3))))⟩, ⟨(some 38), none, (.bin .eql (.t 37) (.c (.t (.int .i64 0))))⟩, ⟨(some 39), none, (.eqB true (.t 35) (.t 38))⟩]) (.cond (.t 39) (.seq (.ops [⟨(some 4), none, (.mv (.c (.t (.int .i64 (-1)))))⟩]) .ret) .skip)) (.seq (.ops [⟨(some 40), none, (.mv (.t 1))⟩, ⟨(some 41), none, (.bin .add (.t 40) (.c (.t (.int .i64 1))))⟩, ⟨(some 1), none, (.mv (.t 41))⟩]) (.seq (.ops [⟨(some 42), none, (.mv (.t 0))⟩, ⟨(some 43), none, (.mv (.t 5))⟩, ⟨(some 44), none, (.indexAddr 4 (.t 42) (.t 43))⟩, ⟨(some 45), none, (.fieldAddr 3 (.t 44))⟩, ⟨(some 46), none, (.load none (.t 45))⟩, ⟨(some 47), none, (.mv (.t 1))⟩, ⟨(some 48), none, (.call (.c (.fn (.func 55) [])) [(.t 46), (.t 47)])⟩, ⟨(some 1), none, (.mv (.t 48))⟩]) (.seq (.ops [⟨(some 49), none, (.mv (.t 1))⟩, ⟨(some 50), none, (.bin .lss (.t 49) (.c (.t (.int .i64 0))))⟩]) (.cond (.t 50) (.seq (.ops [⟨(some 4), none, (.mv (.c (.t (.int .i64 (-1)))))⟩]) .ret) .skip)))))))))
theorem row_heldSheetRuleS : RowHeld Tryd.prog markTxt 4 c_heldSheetRuleS shSheetRule := by
  intro b Q e σ i rows row k g0 g5 g1 hr hT hz hk hlt hQ
  obtain ⟨n0, n1, n2, n3, rfl, b0, b1, b3⟩ := isSheetRule hT
  rw [sizeSheetRule] at hz
  have hm : T.mkL markTxt k [.str n0, n1, .bool n2, n3] = ([.str (markTxt k), (T.mk markTxt (k + 1) n1).1, .bool ((((T.mk markTxt (k + 1) n1).2 : Nat) : Int).tmod 3 == 0), (T.mk markTxt ((T.mk markTxt (k + 1) n1).2 + 1) n3).1], (T.mk markTxt ((T.mk markTxt (k + 1) n1).2 + 1) n3).2) := by simp only [mkL_cons, mkL_nil, mkc_int, mkc_bool, mkc_str, Nat.add_assoc, Nat.reduceAdd]
  rw [hm] at hlt hQ hr
  simp only at hlt hQ hr
  clear hm
  have l1 := mk_le (mt := markTxt) (k := (k + 1)) (t := n1)
  have l3 := mk_le (mt := markTxt) (k := ((T.mk markTxt (k + 1) n1).2 + 1)) (t := n3)
  have w0 : IntKind.i64.wrap (((k : Nat) : Int) + 1) = (((k + 1) : Nat) : Int) := i64_succ (k := k) (by omega)
  have w2 : IntKind.i64.wrap ((((T.mk markTxt (k + 1) n1).2 : Nat) : Int) + 1) = ((((T.mk markTxt (k + 1) n1).2 + 1) : Nat) : Int) := i64_succ (k := (T.mk markTxt (k + 1) n1).2) (by omega)
  have three : ((3 : Int) ≠ 0) = True := by simp
  simp (maxSteps := 4000000) -implicitDefEqProofs only [c_heldSheetRuleS, g0, g5, g1, hr, nat_nn, three, nat_neg, ne_self, beq_self_eq_true, Nat.zero_le, w0, w2, S0, S1, S2, S3, S4, S5, S6, S7, S8, S9, S10, S11, S12, S13, S14, S15, S16, S17, opv, opvs, eget, env0, setD, lenStr, lenSl, isNilP, isNilS, putAt, if_true, if_false, reduceCtorEq, Nat.reduceLeDiff, Nat.reduceEqDiff, Nat.reduceSub, Nat.reduceMul, Nat.reduceAdd]
  refine call_pure (textOk k _ (by omega) (by omega)) ?_
  simp (maxSteps := 4000000) -implicitDefEqProofs only [g0, g5, g1, hr, nat_nn, three, nat_neg, ne_self, beq_self_eq_true, Nat.zero_le, w0, w2, S0, S1, S2, S3, S4, S5, S6, S7, S8, S9, S10, S11, S12, S13, S14, S15, S16, S17, opv, opvs, eget, env0, setD, lenStr, lenSl, isNilP, isNilS, putAt, if_true, if_false, reduceCtorEq, Nat.reduceLeDiff, Nat.reduceEqDiff, Nat.reduceSub, Nat.reduceMul, Nat.reduceAdd]
  refine call_pure (heldIntS n1 (k + 1) _ b1 (by omega) (by omega) (by omega)) ?_
  simp (maxSteps := 4000000) -implicitDefEqProofs only [g0, g5, g1, hr, nat_nn, three, nat_neg, ne_self, beq_self_eq_true, Nat.zero_le, w0, w2, S0, S1, S2, S3, S4, S5, S6, S7, S8, S9, S10, S11, S12, S13, S14, S15, S16, S17, opv, opvs, eget, env0, setD, lenStr, lenSl, isNilP, isNilS, putAt, if_true, if_false, reduceCtorEq, Nat.reduceLeDiff, Nat.reduceEqDiff, Nat.reduceSub, Nat.reduceMul, Nat.reduceAdd]
  refine call_pure (heldStringS n3 ((T.mk markTxt (k + 1) n1).2 + 1) _ b3 (by omega) (by omega) (by omega)) ?_
  simp (maxSteps := 4000000) -implicitDefEqProofs only [g0, g5, g1, hr, nat_nn, three, nat_neg, ne_self, beq_self_eq_true, Nat.zero_le, w0, w2, S0, S1, S2, S3, S4, S5, S6, S7, S8, S9, S10, S11, S12, S13, S14, S15, S16, S17, opv, opvs, eget, env0, setD, lenStr, lenSl, isNilP, isNilS, putAt, if_true, if_false, reduceCtorEq, Nat.reduceLeDiff, Nat.reduceEqDiff, Nat.reduceSub, Nat.reduceMul, Nat.reduceAdd]
  refine hQ _ ?_ ?_ ?_ <;> simp (maxSteps := 4000000) -implicitDefEqProofs only [g0, g5, g1, S0, S1, S2, S3, S4, S5, S6, S7, S8, S9, S10, S11, S12, S13, S14, S15, S16, S17, opv, opvs, eget, env0, setD, lenStr, lenSl, isNilP, isNilS, putAt, if_true, if_false, reduceCtorEq, Nat.reduceLeDiff, Nat.reduceEqDiff, Nat.reduceSub, Nat.reduceMul, Nat.reduceAdd]
theorem i_heldSheetRuleS : Is Tryd.prog 16 52 [(.tmp 4)] (tMarkS 51 c_heldSheetRuleS) := ⟨_, _, Tryd.func16, by decide +kernel, rfl, rfl, by kernel_rfl, rfl⟩
theorem heldSheetRuleS : HeldOk Tryd.prog markTxt 16 (.sl 4 shSheetRule) := heldS_ok rfl (by decide) (by decide) i_heldSheetRuleS row_heldSheetRuleS
def c_markSheetLineS : C := (.seq (.ops [⟨(some 12), none, (.mv (.t 0))⟩, ⟨(some 13), none, (.mv (.t 5))⟩, ⟨(some 14), none, (.mv (.t 1))⟩, ⟨(some 15), none, (.call (.c (.fn (.func 51) [])) [(.t 14)])⟩, ⟨(some 16), none, (.indexAddr 2 (.t 12) (.t 13))⟩, ⟨(some 17), none, (.fieldAddr 0 (.t 16))⟩, ⟨none, none, (.store 1 (.t 17) (.t 15))⟩]) (.seq (.ops [⟨(some 18), none, (.mv (.t 1))⟩, ⟨(some 19), none, (.bin .add (.t 18) (.c (.t (.int .i64 1))))⟩, ⟨(some 1), none, (.mv (.t 19))⟩]) (.ops [⟨(some 20), none, (.mv (.t 0))⟩, ⟨(some 21), none, (.mv (.t 5))⟩, ⟨(some 22), none, (.indexAddr 2 (.t 20) (.t 21))⟩, ⟨(some 23), none, (.fieldAddr 1 (.t 22))⟩, ⟨(some 24), none, (.load none (.t 23))⟩, ⟨(some 25), none, (.mv (.t 1))⟩, ⟨(some 26), none, (.call (.c (.fn (.func 53) [])) [(.t 24), (.t 25)])⟩, ⟨(some 1), none, (.mv (.t 26))⟩])))
theorem row_markSheetLineS : RowMark Tryd.prog markTxt 2 c_markSheetLineS shSheetLine := by
  intro b Q e σ id len i rs row r ji k g0 g5 g1 hl hi hs hr hT hz hO hnd hk hlt hQ
  obtain ⟨n0, n1, rfl, b0, b1⟩ := isSheetLine hT
  rw [sizeSheetLine] at hz
  have hm : T.mkL markTxt k [.str n0, n1] = ([.str (markTxt k), (T.mk markTxt (k + 1) n1).1], (T.mk markTxt (k + 1) n1).2) := by simp only [mkL_cons, mkL_nil, mkc_int, mkc_bool, mkc_str, Nat.add_assoc, Nat.reduceAdd]
  rw [hm] at hlt hQ
  simp only at hlt hQ
  clear hm
  obtain ⟨_, rfl, hO0⟩ := oc_str hO
  clear hO
  obtain ⟨u1, _, j1, _, rfl, rfl, o1, hO1⟩ := oc_lst hO0
  clear hO0
  obtain ⟨rfl, rfl⟩ := oc_nil hO1
  have l1 := mk_le (mt := markTxt) (k := (k + 1)) (t := n1)
  have w0 : IntKind.i64.wrap (((k : Nat) : Int) + 1) = (((k + 1) : Nat) : Int) := i64_succ (k := k) (by omega)
  have hidl := (List.getElem?_eq_some_iff.1 hs).1
  have s0 : ∀ o, (σ.set id o)[id]? = some o := fun o => by simp [hidl]
  have rr : ∀ x, (rs.set i x)[i]? = some x := fun x => by simp [hl, hi]
  have hi' : ((i : Nat) : Int) < ((len : Nat) : Int) := by omega
  have three : ((3 : Int) ≠ 0) = True := by simp
  obtain ⟨nid, nd⟩ := List.nodup_cons.1 hnd
  simp only [List.mem_append, not_or, List.not_mem_nil, not_false_eq_true, and_true] at nid
  obtain ⟨nd1, rest1, dj1, dk1⟩ := nd_app nd
  have ni1 : id ∉ j1 := nid
  simp (maxSteps := 4000000) -implicitDefEqProofs only [c_markSheetLineS, g0, g5, g1, hs, hr, hl, hi', nat_nn, s0, rr, three, Nat.zero_le, w0, one_cells o1.one, o1.one, S0, S1, S2, S3, S4, S5, S6, S7, S8, S9, S10, S11, S12, S13, S14, S15, S16, S17, opv, opvs, eget, env0, setD, lenStr, lenSl, isNilP, isNilS, putAt, if_true, if_false, reduceCtorEq, Nat.reduceLeDiff, Nat.reduceEqDiff, Nat.reduceSub, Nat.reduceMul, Nat.reduceAdd]
  refine call_pure (textOk k _ (by omega) (by omega)) ?_
  simp (maxSteps := 4000000) -implicitDefEqProofs only [g0, g5, g1, hs, hr, hl, hi', nat_nn, s0, rr, three, Nat.zero_le, w0, one_cells o1.one, o1.one, S0, S1, S2, S3, S4, S5, S6, S7, S8, S9, S10, S11, S12, S13, S14, S15, S16, S17, opv, opvs, eget, env0, setD, lenStr, lenSl, isNilP, isNilS, putAt, if_true, if_false, reduceCtorEq, Nat.reduceLeDiff, Nat.reduceEqDiff, Nat.reduceSub, Nat.reduceMul, Nat.reduceAdd]
  refine call_by (by rw [List.append_nil]; exact markStringS n1 u1 j1 (k + 1) _ b1 (by omega) (o1.set ni1) nd1 (by omega) (by omega)) ?_
  rintro r' σ1 ⟨rfl, q1, y1, f1⟩
  have e1 := f1 id (by (try simp only [List.length_set]); exact hidl) ni1
  first | rw [s0] at e1 | rw [hs] at e1
  have h1 := (List.getElem?_eq_some_iff.1 e1).1
  have s1 : ∀ o, (σ1.set id o)[id]? = some o := fun o => by simp [h1]
  simp (maxSteps := 4000000) -implicitDefEqProofs only [s1, e1, g0, g5, g1, hs, hr, hl, hi', nat_nn, s0, rr, three, Nat.zero_le, w0, one_cells o1.one, o1.one, S0, S1, S2, S3, S4, S5, S6, S7, S8, S9, S10, S11, S12, S13, S14, S15, S16, S17, opv, opvs, eget, env0, setD, lenStr, lenSl, isNilP, isNilS, putAt, if_true, if_false, reduceCtorEq, Nat.reduceLeDiff, Nat.reduceEqDiff, Nat.reduceSub, Nat.reduceMul, Nat.reduceAdd]
  refine hQ _ _ [.t (.str (markTxt k)), u1] ?_ ?_ ?_ ?_ ?_ ?_ ?_
  · simp (maxSteps := 4000000) -implicitDefEqProofs only [g0, g5, g1, S0, S1, S2, S3, S4, S5, S6, S7, S8, S9, S10, S11, S12, S13, S14, S15, S16, S17, opv, opvs, eget, env0, setD, lenStr, lenSl, isNilP, isNilS, putAt, if_true, if_false, reduceCtorEq, Nat.reduceLeDiff, Nat.reduceEqDiff, Nat.reduceSub, Nat.reduceMul, Nat.reduceAdd]
  · simp (maxSteps := 4000000) -implicitDefEqProofs only [g0, g5, g1, S0, S1, S2, S3, S4, S5, S6, S7, S8, S9, S10, S11, S12, S13, S14, S15, S16, S17, opv, opvs, eget, env0, setD, lenStr, lenSl, isNilP, isNilS, putAt, if_true, if_false, reduceCtorEq, Nat.reduceLeDiff, Nat.reduceEqDiff, Nat.reduceSub, Nat.reduceMul, Nat.reduceAdd]
  · simp (maxSteps := 4000000) -implicitDefEqProofs only [g0, g5, g1, S0, S1, S2, S3, S4, S5, S6, S7, S8, S9, S10, S11, S12, S13, S14, S15, S16, S17, opv, opvs, eget, env0, setD, lenStr, lenSl, isNilP, isNilS, putAt, if_true, if_false, reduceCtorEq, Nat.reduceLeDiff, Nat.reduceEqDiff, Nat.reduceSub, Nat.reduceMul, Nat.reduceAdd]
  · exact e1
  · exact (OwnL.str (OwnL.lst q1 OwnL.nil0))
  · simp only [List.length_set] at y1 ⊢
    omega
  · intro j hj hn
    simp only [List.mem_cons, List.mem_append, List.not_mem_nil, not_or, not_false_eq_true, and_true] at hn
    rw [f1 j (by simp only [List.length_set] at y1 ⊢; omega) hn.2]
    rw [List.getElem?_set_ne (fun e => hn.1 e.symm)]
theorem i_markSheetLineS : Is Tryd.prog 36 28 [(.tmp 4)] (tMarkS 27 c_markSheetLineS) := ⟨_, _, Tryd.func36, by decide +kernel, rfl, rfl, by kernel_rfl, rfl⟩
theorem markSheetLineS : MarkOk Tryd.prog markTxt 36 (.sl 2 shSheetLine) := markS_ok rfl (by decide) (by decide) i_markSheetLineS row_markSheetLineS
def c_heldSheetLineS : C := (.seq (.seq (.drawn [(.mk 0 false ⟨(some 12), none, (.mv (.t 0))⟩ []), (.mk 1 false ⟨(some 13), none, (.mv (.t 5))⟩ []), (.mk 2 false ⟨(some 14), none, (.indexAddr 2 (.t 12) (.t 13))⟩ []), (.mk 3 false ⟨(some 15), none, (.fieldAddr 0 (.t 14))⟩ []), (.mk 4 false ⟨(some 16), none, (.load none (.t 15))⟩ []), (.mk 5 false ⟨(some 17), none, (.mv (.t 1))⟩ []), (.mk 6 true ⟨(some 18), none, (.call (.c (.fn (.func 51) [])) [(.t 17)])⟩ [⟨(some 14), none, (.indexAddr 2 (.t 12) (.t 13))⟩, ⟨(some 16), none, (.load none (.t 15))⟩]), (.mk 7 false ⟨(some 19), none, (.bin .neq (.t 16) (.t 18))⟩ [])]) (.cond (.t 19) (.seq (.ops [⟨(some 4), none, (.mv (.c (.t (.int .i64 (-1)))))⟩]) .ret) .skip)) (.seq (.ops [⟨(some 20), none, (.mv (.t 1))⟩, ⟨(some 21), none, (.bin .add (.t 20) (.c (.t (.int .i64 1))))⟩, ⟨(some 1), none, (.mv (.t 21))⟩]) (.seq (.ops [⟨(some 22), none, (.mv (.t 0))⟩, ⟨(some 23), none, (.mv (.t 5))⟩, ⟨(some 24), none, (.indexAddr 2 (.t 22) (.t 23))⟩, ⟨(some 25), none, (.fieldAddr 1 (.t 24))⟩, ⟨(some 26), none, (.load none (.t 25))⟩, ⟨(some 27), none, (.mv (.t 1))⟩, ⟨(some 28), none, (.call (.c (.fn (.func 55) [])) [(.t 26), (.t 27)])⟩, ⟨(some 1), none, (.mv (.t 28))⟩]) (.seq (.ops [⟨(some 29), none, (.mv (.t 1))⟩, ⟨(some 30), none, (.bin .lss (.t 29) (.c (.t (.int .i64 0))))⟩]) (.cond (.t 30) (.seq (.ops [⟨(some 4), none, (.mv (.c (.t (.int .i64 (-1)))))⟩]) .ret) .skip)))))
theorem row_heldSheetLineS : RowHeld Tryd.prog markTxt 2 c_heldSheetLineS shSheetLine := by
  intro b Q e σ i rows row k g0 g5 g1 hr hT hz hk hlt hQ
  obtain ⟨n0, n1, rfl, b0, b1⟩ := isSheetLine hT
  rw [sizeSheetLine] at hz
  have hm : T.mkL markTxt k [.str n0, n1] = ([.str (markTxt k), (T.mk markTxt (k + 1) n1).1], (T.mk markTxt (k + 1) n1).2) := by simp only [mkL_cons, mkL_nil, mkc_int, mkc_bool, mkc_str, Nat.add_assoc, Nat.reduceAdd]
  rw [hm] at hlt hQ hr
  simp only at hlt hQ hr
  clear hm
  have l1 := mk_le (mt := markTxt) (k := (k + 1)) (t := n1)
  have w0 : IntKind.i64.wrap (((k : Nat) : Int) + 1) = (((k + 1) : Nat) : Int) := i64_succ (k := k) (by omega)
  have three : ((3 : Int) ≠ 0) = True := by simp
  simp (maxSteps := 4000000) -implicitDefEqProofs only [c_heldSheetLineS, g0, g5, g1, hr, nat_nn, three, nat_neg, ne_self, beq_self_eq_true, Nat.zero_le, w0, S0, S1, S2, S3, S4, S5, S6, S7, S8, S9, S10, S11, S12, S13, S14, S15, S16, S17, opv, opvs, eget, env0, setD, lenStr, lenSl, isNilP, isNilS, putAt, if_true, if_false, reduceCtorEq, Nat.reduceLeDiff, Nat.reduceEqDiff, Nat.reduceSub, Nat.reduceMul, Nat.reduceAdd]
  refine call_pure (textOk k _ (by omega) (by omega)) ?_
  simp (maxSteps := 4000000) -implicitDefEqProofs only [g0, g5, g1, hr, nat_nn, three, nat_neg, ne_self, beq_self_eq_true, Nat.zero_le, w0, S0, S1, S2, S3, S4, S5, S6, S7, S8, S9, S10, S11, S12, S13, S14, S15, S16, S17, opv, opvs, eget, env0, setD, lenStr, lenSl, isNilP, isNilS, putAt, if_true, if_false, reduceCtorEq, Nat.reduceLeDiff, Nat.reduceEqDiff, Nat.reduceSub, Nat.reduceMul, Nat.reduceAdd]
  refine call_pure (heldStringS n1 (k + 1) _ b1 (by omega) (by omega) (by omega)) ?_
  simp (maxSteps := 4000000) -implicitDefEqProofs only [g0, g5, g1, hr, nat_nn, three, nat_neg, ne_self, beq_self_eq_true, Nat.zero_le, w0, S0, S1, S2, S3, S4, S5, S6, S7, S8, S9, S10, S11, S12, S13, S14, S15, S16, S17, opv, opvs, eget, env0, setD, lenStr, lenSl, isNilP, isNilS, putAt, if_true, if_false, reduceCtorEq, Nat.reduceLeDiff, Nat.reduceEqDiff, Nat.reduceSub, Nat.reduceMul, Nat.reduceAdd]
  refine hQ _ ?_ ?_ ?_ <;> simp (maxSteps := 4000000) -implicitDefEqProofs only [g0, g5, g1, S0, S1, S2, S3, S4, S5, S6, S7, S8, S9, S10, S11, S12, S13, S14, S15, S16, S17, opv, opvs, eget, env0, setD, lenStr, lenSl, isNilP, isNilS, putAt, if_true, if_false, reduceCtorEq, Nat.reduceLeDiff, Nat.reduceEqDiff, Nat.reduceSub, Nat.reduceMul, Nat.reduceAdd]
theorem i_heldSheetLineS : Is Tryd.prog 37 32 [(.tmp 4)] (tMarkS 31 c_heldSheetLineS) := ⟨_, _, Tryd.func37, by decide +kernel, rfl, rfl, by kernel_rfl, rfl⟩
theorem heldSheetLineS : HeldOk Tryd.prog markTxt 37 (.sl 2 shSheetLine) := heldS_ok rfl (by decide) (by decide) i_heldSheetLineS row_heldSheetLineS
def c_markSheetBlockS : C := (.seq (.ops [⟨(some 12), none, (.mv (.t 0))⟩, ⟨(some 13), none, (.mv (.t 5))⟩, ⟨(some 14), none, (.mv (.t 1))⟩, ⟨(some 15), none, (.call (.c (.fn (.func 51) [])) [(.t 14)])⟩, ⟨(some 16), none, (.indexAddr 3 (.t 12) (.t 13))⟩, ⟨(some 17), none, (.fieldAddr 0 (.t 16))⟩, ⟨none, none, (.store 1 (.t 17) (.t 15))⟩]) (.seq (.ops [⟨(some 18), none, (.mv (.t 1))⟩, ⟨(some 19), none, (.bin .add (.t 18) (.c (.t (.int .i64 1))))⟩, ⟨(some 1), none, (.mv (.t 19))⟩]) (.seq (.ops [⟨(some 20), none, (.mv (.t 0))⟩, ⟨(some 21), none, (.mv (.t 5))⟩, ⟨(some 22), none, (.mv (.t 1))⟩, ⟨(some 23), none, (.call (.c (.fn (.func 51) [])) [(.t 22)])⟩, ⟨(some 24), none, (.indexAddr 3 (.t 20) (.t 21))⟩, ⟨(some 25), none, (.fieldAddr 1 (.t 24))⟩, ⟨none, none, (.store 1 (.t 25) (.t 23))⟩]) (.seq (.ops [⟨(some 26), none, (.mv (.t 1))⟩, ⟨(some 27), none, (.bin .add (.t 26) (.c (.t (.int .i64 1))))⟩, ⟨(some 1), none, (.mv (.t 27))⟩]) (.ops [⟨(some 28), none, (.mv (.t 0))⟩, ⟨(some 29), none, (.mv (.t 5))⟩, ⟨(some 30), none, (.indexAddr 3 (.t 28) (.t 29))⟩, ⟨(some 31), none, (.fieldAddr 2 (.t 30))⟩, ⟨(some 32), none, (.load none (.t 31))⟩, ⟨(some 33), none, (.mv (.t 1))⟩, ⟨(some 34), none, (.call (.c (.fn (.func 36) [])) [(.t 32), (.t 33)])⟩, ⟨(some 1), none, (.mv (.t 34))⟩])))))
theorem row_markSheetBlockS : RowMark Tryd.prog markTxt 3 c_markSheetBlockS shSheetBlock := by
  intro b Q e σ id len i rs row r ji k g0 g5 g1 hl hi hs hr hT hz hO hnd hk hlt hQ
  obtain ⟨n0, n1, n2, rfl, b0, b1, b2⟩ := isSheetBlock hT
  rw [sizeSheetBlock] at hz
  have hm : T.mkL markTxt k [.str n0, .str n1, n2] = ([.str (markTxt k), .str (markTxt (k + 1)), (T.mk markTxt (k + 2) n2).1], (T.mk markTxt (k + 2) n2).2) := by simp only [mkL_cons, mkL_nil, mkc_int, mkc_bool, mkc_str, Nat.add_assoc, Nat.reduceAdd]
  rw [hm] at hlt hQ
  simp only at hlt hQ
  clear hm
  obtain ⟨_, rfl, hO0⟩ := oc_str hO
  clear hO
  obtain ⟨_, rfl, hO1⟩ := oc_str hO0
  clear hO0
  obtain ⟨u2, _, j2, _, rfl, rfl, o2, hO2⟩ := oc_lst hO1
  clear hO1
  obtain ⟨rfl, rfl⟩ := oc_nil hO2
  have l2 := mk_le (mt := markTxt) (k := (k + 2)) (t := n2)
  have w0 : IntKind.i64.wrap (((k : Nat) : Int) + 1) = (((k + 1) : Nat) : Int) := i64_succ (k := k) (by omega)
  have w1 : IntKind.i64.wrap ((((k + 1) : Nat) : Int) + 1) = (((k + 2) : Nat) : Int) := i64_succ (k := (k + 1)) (by omega)
  have hidl := (List.getElem?_eq_some_iff.1 hs).1
  have s0 : ∀ o, (σ.set id o)[id]? = some o := fun o => by simp [hidl]
  have rr : ∀ x, (rs.set i x)[i]? = some x := fun x => by simp [hl, hi]
  have hi' : ((i : Nat) : Int) < ((len : Nat) : Int) := by omega
  have three : ((3 : Int) ≠ 0) = True := by simp
  obtain ⟨nid, nd⟩ := List.nodup_cons.1 hnd
  simp only [List.mem_append, not_or, List.not_mem_nil, not_false_eq_true, and_true] at nid
  obtain ⟨nd2, rest2, dj2, dk2⟩ := nd_app nd
  have ni2 : id ∉ j2 := nid
  simp (maxSteps := 4000000) -implicitDefEqProofs only [c_markSheetBlockS, g0, g5, g1, hs, hr, hl, hi', nat_nn, s0, rr, three, Nat.zero_le, w0, w1, one_cells o2.one, o2.one, S0, S1, S2, S3, S4, S5, S6, S7, S8, S9, S10, S11, S12, S13, S14, S15, S16, S17, opv, opvs, eget, env0, setD, lenStr, lenSl, isNilP, isNilS, putAt, if_true, if_false, reduceCtorEq, Nat.reduceLeDiff, Nat.reduceEqDiff, Nat.reduceSub, Nat.reduceMul, Nat.reduceAdd]
  refine call_pure (textOk k _ (by omega) (by omega)) ?_
  simp (maxSteps := 4000000) -implicitDefEqProofs only [g0, g5, g1, hs, hr, hl, hi', nat_nn, s0, rr, three, Nat.zero_le, w0, w1, one_cells o2.one, o2.one, S0, S1, S2, S3, S4, S5, S6, S7, S8, S9, S10, S11, S12, S13, S14, S15, S16, S17, opv, opvs, eget, env0, setD, lenStr, lenSl, isNilP, isNilS, putAt, if_true, if_false, reduceCtorEq, Nat.reduceLeDiff, Nat.reduceEqDiff, Nat.reduceSub, Nat.reduceMul, Nat.reduceAdd]
  refine call_pure (textOk (k + 1) _ (by omega) (by omega)) ?_
  simp (maxSteps := 4000000) -implicitDefEqProofs only [g0, g5, g1, hs, hr, hl, hi', nat_nn, s0, rr, three, Nat.zero_le, w0, w1, one_cells o2.one, o2.one, S0, S1, S2, S3, S4, S5, S6, S7, S8, S9, S10, S11, S12, S13, S14, S15, S16, S17, opv, opvs, eget, env0, setD, lenStr, lenSl, isNilP, isNilS, putAt, if_true, if_false, reduceCtorEq, Nat.reduceLeDiff, Nat.reduceEqDiff, Nat.reduceSub, Nat.reduceMul, Nat.reduceAdd]
  refine call_by (by rw [List.append_nil]; exact markSheetLineS n2 u2 j2 (k + 2) _ b2 (by omega) (o2.set ni2) nd2 (by omega) (by omega)) ?_
  rintro r' σ2 ⟨rfl, q2, y2, f2⟩
  have e2 := f2 id (by (try simp only [List.length_set]); exact hidl) ni2
  first | rw [s0] at e2 | rw [hs] at e2
  have h2 := (List.getElem?_eq_some_iff.1 e2).1
  have s2 : ∀ o, (σ2.set id o)[id]? = some o := fun o => by simp [h2]
  simp (maxSteps := 4000000) -implicitDefEqProofs only [s2, e2, g0, g5, g1, hs, hr, hl, hi', nat_nn, s0, rr, three, Nat.zero_le, w0, w1, one_cells o2.one, o2.one, S0, S1, S2, S3, S4, S5, S6, S7, S8, S9, S10, S11, S12, S13, S14, S15, S16, S17, opv, opvs, eget, env0, setD, lenStr, lenSl, isNilP, isNilS, putAt, if_true, if_false, reduceCtorEq, Nat.reduceLeDiff, Nat.reduceEqDiff, Nat.reduceSub, Nat.reduceMul, Nat.reduceAdd]
  refine hQ _ _ [.t (.str (markTxt k)), .t (.str (markTxt (k + 1))), u2] ?_ ?_ ?_ ?_ ?_ ?_ ?_
  · simp (maxSteps := 4000000) -implicitDefEqProofs only [g0, g5, g1, S0, S1, S2, S3, S4, S5, S6, S7, S8, S9, S10, S11, S12, S13, S14, S15, S16, S17, opv, opvs, eget, env0, setD, lenStr, lenSl, isNilP, isNilS, putAt, if_true, if_false, reduceCtorEq, Nat.reduceLeDiff, Nat.reduceEqDiff, Nat.reduceSub, Nat.reduceMul, Nat.reduceAdd]
  · simp (maxSteps := 4000000) -implicitDefEqProofs only [g0, g5, g1, S0, S1, S2, S3, S4, S5, S6, S7, S8, S9, S10, S11, S12, S13, S14, S15, S16, S17, opv, opvs, eget, env0, setD, lenStr, lenSl, isNilP, isNilS, putAt, if_true, if_false, reduceCtorEq, Nat.reduceLeDiff, Nat.reduceEqDiff, Nat.reduceSub, Nat.reduceMul, Nat.reduceAdd]
  · simp (maxSteps := 4000000) -implicitDefEqProofs only [g0, g5, g1, S0, S1, S2, S3, S4, S5, S6, S7, S8, S9, S10, S11, S12, S13, S14, S15, S16, S17, opv, opvs, eget, env0, setD, lenStr, lenSl, isNilP, isNilS, putAt, if_true, if_false, reduceCtorEq, Nat.reduceLeDiff, Nat.reduceEqDiff, Nat.reduceSub, Nat.reduceMul, Nat.reduceAdd]
  · exact e2
  · exact (OwnL.str (OwnL.str (OwnL.lst q2 OwnL.nil0)))
  · simp only [List.length_set] at y2 ⊢
    omega
  · intro j hj hn
    simp only [List.mem_cons, List.mem_append, List.not_mem_nil, not_or, not_false_eq_true, and_true] at hn
    rw [f2 j (by simp only [List.length_set] at y2 ⊢; omega) hn.2]
    rw [List.getElem?_set_ne (fun e => hn.1 e.symm)]
theorem i_markSheetBlockS : Is Tryd.prog 84 36 [(.tmp 4)] (tMarkS 35 c_markSheetBlockS) := ⟨_, _, Tryd.func84, by decide +kernel, rfl, rfl, by kernel_rfl, rfl⟩
theorem markSheetBlockS : MarkOk Tryd.prog markTxt 84 (.sl 3 shSheetBlock) := markS_ok rfl (by decide) (by decide) i_markSheetBlockS row_markSheetBlockS
def c_heldSheetBlockS : C := (.seq (.seq (.drawn [(.mk 0 false ⟨(some 12), none, (.mv (.t 0))⟩ []), (.mk 1 false ⟨(some 13), none, (.mv (.t 5))⟩ []), (.mk 2 false ⟨(some 14), none, (.indexAddr 3 (.t 12) (.t 13))⟩ []), (.mk 3 false ⟨(some 15), none, (.fieldAddr 0 (.t 14))⟩ []), (.mk 4 false ⟨(some 16), none, (.load none (.t 15))⟩ []), (.mk 5 false ⟨(some 17), none, (.mv (.t 1))⟩ []), (.mk 6 true ⟨(some 18), none, (.call (.c (.fn (.func 51) [])) [(.t 17)])⟩ [⟨(some 14), none, (.indexAddr 3 (.t 12) (.t 13))⟩, ⟨(some 16), none, (.load none (.t 15))⟩]), (.mk 7 false ⟨(some 19), none, (.bin .neq (.t 16) (.t 18))⟩ [])]) (.cond (.t 19) (.seq (.ops [⟨(some 4), none, (.mv (.c (.t (.int .i64 (-1)))))⟩]) .ret) .skip)) (.seq (.ops [⟨(some 20), none, (.mv (.t 1))⟩, ⟨(some 21), none, (.bin .add (.t 20) (.c (.t (.int .i64 1))))⟩, ⟨(some 1), none, (.mv (.t 21))⟩]) (.seq (.seq (.drawn [(.mk 0 false ⟨(some 22), none, (.mv (.t 0))⟩ []), (.mk 1 false ⟨(some 23), none, (.mv (.t 5))⟩ []), (.mk 2 false ⟨(some 24), none, (.indexAddr 3 (.t 22) (.t 23))⟩ []), (.mk 3 false ⟨(some 25), none, (.fieldAddr 1 (.t 24))⟩ []), (.mk 4 false ⟨(some 26), none, (.load none (.t 25))⟩ []), (.mk 5 false ⟨(some 27), none, (.mv (.t 1))⟩ []), (.mk 6 true ⟨(some 28), none, (.call (.c (.fn (.func 51) [])) [(.t 27)])⟩ [⟨(some 24), none, (.indexAddr 3 (.t 22) (.t 23))⟩, ⟨(some 26), none, (.load none (.t 25))⟩]), (.mk 7 false ⟨(some 29), none, (.bin .neq (.t 26) (.t 28))⟩ [])]) (.cond (.t 29) (.seq (.ops [⟨(some 4), none, (.mv (.c (.t (.int .i64 (-1)))))⟩]) .ret) .skip)) (.seq (.ops [⟨(some 30), none, (.mv (.t 1))⟩, ⟨(some 31), none, (.bin .add (.t 30) (.c (.t (.int .i64 1))))⟩, ⟨(some 1), none, (.mv (.t 31))⟩]) (.seq (.ops [⟨(some 32), none, (.mv (.t 0))⟩, ⟨(some 33), none, (.mv (.t 5))⟩, ⟨(some 34), none, (.indexAddr 3 (.t 32) (.t 33))⟩, ⟨(some 35), none, (.fieldAddr 2 (.t 34))⟩, ⟨(some 36), none, (.load none (.t 35))⟩, ⟨(some 37), none, (.mv (.t 1))⟩, ⟨(some 38), none, (.call (.c (.fn (.func 37) [])) [(.t 36), (.t 37)])⟩, ⟨(some 1), none, (.mv (.t 38))⟩]) (.seq (.ops [⟨(some 39), none, (.mv (.t 1))⟩, ⟨(some 40), none, (.bin .lss (.t 39) (.c (.t (.int .i64 0))))⟩]) (.cond (.t 40) (.seq (.ops [⟨(some 4), none, (.mv (.c (.t (.int .i64 (-1)))))⟩]) .ret) .skip)))))))
theorem row_heldSheetBlockS : RowHeld Tryd.prog markTxt 3 c_heldSheetBlockS shSheetBlock := by
  intro b Q e σ i rows row k g0 g5 g1 hr hT hz hk hlt hQ
  obtain ⟨n0, n1, n2, rfl, b0, b1, b2⟩ := isSheetBlock hT
  rw [sizeSheetBlock] at hz
  have hm : T.mkL markTxt k [.str n0, .str n1, n2] = ([.str (markTxt k), .str (markTxt (k + 1)), (T.mk markTxt (k + 2) n2).1], (T.mk markTxt (k + 2) n2).2) := by simp only [mkL_cons, mkL_nil, mkc_int, mkc_bool, mkc_str, Nat.add_assoc, Nat.reduceAdd]
  rw [hm] at hlt hQ hr
  simp only at hlt hQ hr
  clear hm
  have l2 := mk_le (mt := markTxt) (k := (k + 2)) (t := n2)
  have w0 : IntKind.i64.wrap (((k : Nat) : Int) + 1) = (((k + 1) : Nat) : Int) := i64_succ (k := k) (by omega)
  have w1 : IntKind.i64.wrap ((((k + 1) : Nat) : Int) + 1) = (((k + 2) : Nat) : Int) := i64_succ (k := (k + 1)) (by omega)
  have three : ((3 : Int) ≠ 0) = True := by simp
  simp (maxSteps := 4000000) -implicitDefEqProofs only [c_heldSheetBlockS, g0, g5, g1, hr, nat_nn, three, nat_neg, ne_self, beq_self_eq_true, Nat.zero_le, w0, w1, S0, S1, S2, S3, S4, S5, S6, S7, S8, S9, S10, S11, S12, S13, S14, S15, S16, S17, opv, opvs, eget, env0, setD, lenStr, lenSl, isNilP, isNilS, putAt, if_true, if_false, reduceCtorEq, Nat.reduceLeDiff, Nat.reduceEqDiff, Nat.reduceSub, Nat.reduceMul, Nat.reduceAdd]
  refine call_pure (textOk k _ (by omega) (by omega)) ?_
  simp (maxSteps := 4000000) -implicitDefEqProofs only [g0, g5, g1, hr, nat_nn, three, nat_neg, ne_self, beq_self_eq_true, Nat.zero_le, w0, w1, S0, S1, S2, S3, S4, S5, S6, S7, S8, S9, S10, S11, S12, S13, S14, S15, S16, S17, opv, opvs, eget, env0, setD, lenStr, lenSl, isNilP, isNilS, putAt, if_true, if_false, reduceCtorEq, Nat.reduceLeDiff, Nat.reduceEqDiff, Nat.reduceSub, Nat.reduceMul, Nat.reduceAdd]
  refine call_pure (textOk (k + 1) _ (by omega) (by omega)) ?_
  simp (maxSteps := 4000000) -implicitDefEqProofs only [g0, g5, g1, hr, nat_nn, three, nat_neg, ne_self, beq_self_eq_true, Nat.zero_le, w0, w1, S0, S1, S2, S3, S4, S5, S6, S7, S8, S9, S10, S11, S12, S13, S14, S15, S16, S17, opv, opvs, eget, env0, setD, lenStr, lenSl, isNilP, isNilS, putAt, if_true, if_false, reduceCtorEq, Nat.reduceLeDiff, Nat.reduceEqDiff, Nat.reduceSub, Nat.reduceMul, Nat.reduceAdd]
  refine call_pure (heldSheetLineS n2 (k + 2) _ b2 (by omega) (by omega) (by omega)) ?_
  simp (maxSteps := 4000000) -implicitDefEqProofs only [g0, g5, g1, hr, nat_nn, three, nat_neg, ne_self, beq_self_eq_true, Nat.zero_le, w0, w1, S0, S1, S2, S3, S4, S5, S6, S7, S8, S9, S10, S11, S12, S13, S14, S15, S16, S17, opv, opvs, eget, env0, setD, lenStr, lenSl, isNilP, isNilS, putAt, if_true, if_false, reduceCtorEq, Nat.reduceLeDiff, Nat.reduceEqDiff, Nat.reduceSub, Nat.reduceMul, Nat.reduceAdd]
  refine hQ _ ?_ ?_ ?_ <;> simp (maxSteps := 4000000) -implicitDefEqProofs only [g0, g5, g1, S0, S1, S2, S3, S4, S5, S6, S7, S8, S9, S10, S11, S12, S13, S14, S15, S16, S17, opv, opvs, eget, env0, setD, lenStr, lenSl, isNilP, isNilS, putAt, if_true, if_false, reduceCtorEq, Nat.reduceLeDiff, Nat.reduceEqDiff, Nat.reduceSub, Nat.reduceMul, Nat.reduceAdd]
theorem i_heldSheetBlockS : Is Tryd.prog 88 42 [(.tmp 4)] (tMarkS 41 c_heldSheetBlockS) := ⟨_, _, Tryd.func88, by decide +kernel, rfl, rfl, by kernel_rfl, rfl⟩
theorem heldSheetBlockS : HeldOk Tryd.prog markTxt 88 (.sl 3 shSheetBlock) := heldS_ok rfl (by decide) (by decide) i_heldSheetBlockS row_heldSheetBlockS
def c_laws_markSheet : C := (.seq (.ops [⟨(some 2), none, (.box (.t 0))⟩, ⟨(some 4), none, (.mv (.c (.t (.int .i64 0))))⟩]) (.seq (.ops [⟨(some 5), none, (.fieldAddr 0 (.t 2))⟩, ⟨(some 6), none, (.load none (.t 5))⟩, ⟨(some 7), none, (.mv (.t 1))⟩, ⟨(some 8), none, (.call (.c (.fn (.func 84) [])) [(.t 6), (.t 7)])⟩, ⟨(some 1), none, (.mv (.t 8))⟩]) (.seq (.ops [⟨(some 9), none, (.mv (.t 1))⟩, ⟨(some 4), none, (.mv (.t 9))⟩]) .ret)))
theorem k_laws_markSheet : comp Tryd.prog 10 (Tryd.f35.body.getD .skip) = some c_laws_markSheet := by kernel_rfl

theorem markSheet : MarkLOk Tryd.prog markTxt 35 shSheet := by
  rintro ts us is k σ hT hz hO hnd hk hlt
  obtain ⟨n0, rfl, b0⟩ := isSheet hT
  rw [sizeSheet] at hz
  have hm : T.mkVL markTxt k [n0] = ([(T.mk markTxt k n0).1], (T.mk markTxt k n0).2) := by simp only [mkVL_cons, mkVL_nil, mkV_int, mkV_bool, mkV_str, mkV_sl b0]
  rw [hm] at hlt ⊢
  simp only at hlt ⊢
  clear hm
  obtain ⟨u0, _, j0, _, rfl, rfl, o0, hO0⟩ := oc_lst hO
  clear hO
  obtain ⟨rfl, rfl⟩ := oc_nil hO0
  have l0 := mk_le (mt := markTxt) (k := k) (t := n0)
  refine acalls_of Tryd.func35 (by decide +kernel) (code := Tryd.f35.body.getD .skip) (n := 10) (c := c_laws_markSheet) (rs := [(.tmp 4)]) rfl rfl k_laws_markSheet (by kernel_rfl) (by simp) (fun hσ => ?_)
  obtain ⟨nd0, rest0, dj0, dk0⟩ := nd_app hnd
  have U0 : Own σ n0 u0 j0 := o0
  have N0 := nd0
  have lt0 := U0.lt
  simp (maxSteps := 4000000) -implicitDefEqProofs only [c_laws_markSheet, one_cells o0.one, o0.one, S0, S1, S2, S3, S4, S5, S6, S7, S8, S9, S10, S11, S12, S13, S14, S15, S16, S17, opv, opvs, eget, env0, setD, lenStr, lenSl, isNilP, isNilS, putAt, if_true, if_false, reduceCtorEq, Nat.reduceLeDiff, Nat.reduceEqDiff, Nat.reduceSub, Nat.reduceMul, Nat.reduceAdd]
  refine call_by (by rw [List.append_nil]; exact markSheetBlockS n0 u0 j0 k _ b0 (by omega) (U0.pre (List.prefix_append _ _)) N0 (by omega) (by omega)) ?_
  rintro r' σ0 ⟨rfl, q0, y0, f0⟩
  have eb0 := f0 σ.length (by first | simp | (simp only [List.length_append, List.length_cons, List.length_nil] at *; omega)) (fun h => Nat.lt_irrefl _ (lt0 _ h))
  rw [q_app_get0] at eb0
  simp only [List.getElem?_cons_zero] at eb0
  simp (maxSteps := 4000000) -implicitDefEqProofs only [eb0, one_cells o0.one, o0.one, S0, S1, S2, S3, S4, S5, S6, S7, S8, S9, S10, S11, S12, S13, S14, S15, S16, S17, opv, opvs, eget, env0, setD, lenStr, lenSl, isNilP, isNilS, putAt, if_true, if_false, reduceCtorEq, Nat.reduceLeDiff, Nat.reduceEqDiff, Nat.reduceSub, Nat.reduceMul, Nat.reduceAdd]
  have hf : OwnL _ [(T.mk markTxt k n0).1] [u0] _ := (OwnL.lst q0 OwnL.nil0)
  try simp only [List.append_assoc, List.append_nil, List.nil_append] at hf
  try simp only [List.append_assoc, List.append_nil, List.nil_append]
  simp only [List.length_append, List.length_cons, List.length_nil] at y0
  refine fin_keep (by omega) ⟨by simp [mkRes], hf, by omega, fun j hj hn => ?_⟩
  try simp only [List.mem_append, List.not_mem_nil, not_or, not_false_eq_true, and_true, or_false] at hn
  rw [f0 j (by first | omega | (simp only [List.length_append, List.length_cons, List.length_nil]; omega)) (by first | exact hn | simp [hn])]
  rw [List.getElem?_append_left hj]
def c_laws_heldSheet : C := (.seq (.ops [⟨(some 2), none, (.box (.t 0))⟩, ⟨(some 4), none, (.mv (.c (.t (.int .i64 0))))⟩]) (.seq (.ops [⟨(some 5), none, (.fieldAddr 0 (.t 2))⟩, ⟨(some 6), none, (.load none (.t 5))⟩, ⟨(some 7), none, (.mv (.t 1))⟩, ⟨(some 8), none, (.call (.c (.fn (.func 88) [])) [(.t 6), (.t 7)])⟩, ⟨(some 1), none, (.mv (.t 8))⟩]) (.seq (.seq (.ops [⟨(some 9), none, (.mv (.t 1))⟩, ⟨(some 10), none, (.bin .lss (.t 9) (.c (.t (.int .i64 0))))⟩]) (.cond (.t 10) (.seq (.ops [⟨(some 4), none, (.mv (.c (.t (.int .i64 (-1)))))⟩]) .ret) .skip)) (.seq (.ops [⟨(some 11), none, (.mv (.t 1))⟩, ⟨(some 4), none, (.mv (.t 11))⟩]) .ret))))
theorem k_laws_heldSheet : comp Tryd.prog 12 (Tryd.f40.body.getD .skip) = some c_laws_heldSheet := by kernel_rfl

theorem heldSheet : HeldLOk Tryd.prog markTxt 40 shSheet := by
  rintro ts k σ hT hz hk hlt
  obtain ⟨n0, rfl, b0⟩ := isSheet hT
  rw [sizeSheet] at hz
  have hm : T.mkVL markTxt k [n0] = ([(T.mk markTxt k n0).1], (T.mk markTxt k n0).2) := by simp only [mkVL_cons, mkVL_nil, mkV_int, mkV_bool, mkV_str, mkV_sl b0]
  rw [hm] at hlt ⊢
  simp only at hlt ⊢
  clear hm
  have l0 := mk_le (mt := markTxt) (k := k) (t := n0)
  refine acalls_of Tryd.func40 (by decide +kernel) (code := Tryd.f40.body.getD .skip) (n := 12) (c := c_laws_heldSheet) (rs := [(.tmp 4)]) rfl rfl k_laws_heldSheet (by kernel_rfl) (by simp) (fun hσ => ?_)
  have H0 := fun σ' => heldSheetBlockS n0 k σ' b0 (by omega) (by omega) (by omega)
  simp (maxSteps := 4000000) -implicitDefEqProofs only [c_laws_heldSheet, nat_neg, S0, S1, S2, S3, S4, S5, S6, S7, S8, S9, S10, S11, S12, S13, S14, S15, S16, S17, opv, opvs, eget, env0, setD, lenStr, lenSl, isNilP, isNilS, putAt, if_true, if_false, reduceCtorEq, Nat.reduceLeDiff, Nat.reduceEqDiff, Nat.reduceSub, Nat.reduceMul, Nat.reduceAdd]
  refine call_pure (H0 _) ?_
  simp (maxSteps := 4000000) -implicitDefEqProofs only [nat_neg, S0, S1, S2, S3, S4, S5, S6, S7, S8, S9, S10, S11, S12, S13, S14, S15, S16, S17, opv, opvs, eget, env0, setD, lenStr, lenSl, isNilP, isNilS, putAt, if_true, if_false, reduceCtorEq, Nat.reduceLeDiff, Nat.reduceEqDiff, Nat.reduceSub, Nat.reduceMul, Nat.reduceAdd]
  exact ret_same rfl hσ rfl ⟨rfl, rfl⟩
end Go.Proofs.YtkppdeobinefbaaDoor.W

end
