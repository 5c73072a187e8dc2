/- The marks' text. Conditions: none. -/
/- Marks and looks at them again, for these structs (printed by marks.py). Conditions: none. -/
import Derived.Test.YtkppdeobinefbaaAb4
import Derived.IntWalk
import Derived.Test.YtkppdeobinefbaaProg
import Derived.KernelRfl
import Derived.Test.YtkppdeobinefbaaTypesSheet
set_option linter.unusedSimpArgs false
set_option linter.unusedVariables false
set_option linter.defProp false

section
open Go Go.Ab
namespace Go.Proofs.Ytkppdeobinefbaa.W
def c_laws_markText : C := (.seq (.ops [⟨(some 2), none, (.mv (.c (.t (.str []))))⟩]) (.seq (.seq (.ops [⟨(some 4), none, (.mv (.t 0))⟩, ⟨(some 5), none, (.bin .leq (.t 4) (.c (.t (.int .i64 0))))⟩]) (.cond (.t 5) (.seq (.ops [⟨(some 2), none, (.mv (.c (.t (.str [109, 48]))))⟩]) .ret) .skip)) (.seq (.ops [⟨(some 3), none, (.mv (.c (.t (.str []))))⟩]) (.seq (.block 0 (.loop (.seq (.seq (.ops [⟨(some 6), none, (.mv (.t 0))⟩, ⟨(some 7), none, (.bin .gtr (.t 6) (.c (.t (.int .i64 0))))⟩]) (.cond (.t 7) .skip (.exit 0))) (.block 1 (.seq (.ops [⟨(some 8), none, (.mv (.t 0))⟩, ⟨(some 9), none, (.bin .rem (.t 8) (.c (.t (.int .i64 10))))⟩, ⟨(some 10), none, (.bin .add (.c (.t (.int .i64 48))) (.t 9))⟩, ⟨(some 11), none, (.convInt .u8 (.t 10))⟩, ⟨(some 12), none, (.lit none 1 1 [(.t (.int .u8 0))] [⟨0, (.t 11)⟩])⟩, ⟨(some 13), none, (.bytesStr (.t 12))⟩, ⟨(some 14), none, (.mv (.t 3))⟩, ⟨(some 15), none, (.bin .add (.t 13) (.t 14))⟩, ⟨(some 3), none, (.mv (.t 15))⟩]) (.ops [⟨(some 16), none, (.mv (.t 0))⟩, ⟨(some 17), none, (.bin .quo (.t 16) (.c (.t (.int .i64 10))))⟩, ⟨(some 0), none, (.mv (.t 17))⟩])))))) (.seq (.ops [⟨(some 18), none, (.mv (.t 3))⟩, ⟨(some 19), none, (.bin .add (.c (.t (.str [109]))) (.t 18))⟩, ⟨(some 2), none, (.mv (.t 19))⟩]) .ret)))))
theorem k_laws_markText : comp Try.prog 20 (Try.f31.body.getD .skip) = some c_laws_markText := by kernel_rfl

def digit (k : Nat) : UInt8 := UInt8.ofNat (IntKind.u8.wrap (IntKind.i64.wrap (48 + (k : Int).tmod 10))).toNat
def dec (k : Nat) (o : List UInt8) : List UInt8 := if h : k = 0 then o else dec (k / 10) (digit k :: o)
termination_by k
decreasing_by omega
def markTxt (k : Nat) : List UInt8 := 109 :: dec k []

theorem markText (k : Nat) (h1 : 1 ≤ k) (h2 : k < 2 ^ 62) (σ : Store) : ACalls Try.prog 31 [.t (.int .i64 k)] σ fun r σ' => r = .t (.str (markTxt k)) ∧ σ' = σ := by
  refine acalls_of Try.func31 (by decide +kernel) (code := Try.f31.body.getD .skip) (n := 20) (c := c_laws_markText) (rs := [(.tmp 2)]) rfl rfl k_laws_markText (by kernel_rfl) (by simp) (fun hσ => ?_)
  have hpos : decide ((k : Int) ≤ 0) = false := by simp; omega
  simp -implicitDefEqProofs only [c_laws_markText, hpos, S0, S1, S2, S3, S4, S5, S6, S7, S8, S9, S10, S11, S12, S13, S14, S15, S16, opv, opvs, eget, env0, setD, lenStr, lenSl, isNilP, isNilS, putAt, if_true, if_false, reduceCtorEq, Nat.reduceLeDiff, Nat.reduceEqDiff, Nat.reduceSub, Nat.reduceMul, Nat.reduceAdd]
  refine loop_by [0, 3] σ.length (fun n s' => ∃ j o, n = j ∧ j + o.length ≤ k ∧ dec j o = dec k [] ∧ s' = ⟨.go, [(0, .t (.int .i64 (j : Nat))), (3, .t (.str o))], σ⟩) k (cut_all (Nat.le_refl _)) ⟨k, [], rfl, by simp, rfl, ?_⟩ ?_
  · simp [St.cut, keep, eget]
  · rintro j s' ⟨_, o, rfl, hj, hd, rfl⟩
    simp -implicitDefEqProofs only [S0, S1, S2, S3, S4, S5, S6, S7, S8, S9, S10, S11, S12, S13, S14, S15, S16, opv, opvs, eget, env0, setD, lenStr, lenSl, isNilP, isNilS, putAt, if_true, if_false, reduceCtorEq, Nat.reduceLeDiff, Nat.reduceEqDiff, Nat.reduceSub, Nat.reduceMul, Nat.reduceAdd]
    refine cond_split (fun h => ?_) (fun h => ?_)
    · have hj0 : 0 < j := by simpa using h
      have hdec : dec j o = dec (j / 10) (digit j :: o) := by rw [dec]; simp [show ¬ j = 0 by omega]
      have hq : IntKind.i64.wrap ((j : Int).tdiv 10) = ((j / 10 : Nat) : Int) := by
        rw [show (j : Int).tdiv 10 = ((j / 10 : Nat) : Int) by rw [Int.tdiv_eq_ediv_of_nonneg (by omega)]; omega]
        exact IntWalk.i64_in _ (by omega)
      have hten : ((10 : Int) ≠ 0) = True := by simp
      have hlen : (((1 + o.length : Nat)) : Int) ≤ 9223372036854775807 := by omega
      simp -implicitDefEqProofs only [h, hten, S0, S1, S2, S3, S4, S5, S6, S7, S8, S9, S10, S11, S12, S13, S14, S15, S16, opv, opvs, eget, env0, setD, lenStr, lenSl, isNilP, isNilS, putAt, if_true, if_false, reduceCtorEq, Nat.reduceLeDiff, Nat.reduceEqDiff, Nat.reduceSub, Nat.reduceMul, Nat.reduceAdd]
      refine ⟨by omega, lit_rows ?_⟩
      simp -implicitDefEqProofs only [h, hten, q_rows_r, Option.map_some, hlen, hq, S0, S1, S2, S3, S4, S5, S6, S7, S8, S9, S10, S11, S12, S13, S14, S15, S16, opv, opvs, eget, env0, setD, lenStr, lenSl, isNilP, isNilS, putAt, if_true, if_false, reduceCtorEq, Nat.reduceLeDiff, Nat.reduceEqDiff, Nat.reduceSub, Nat.reduceMul, Nat.reduceAdd]
      refine ⟨cut_all (Nat.le_refl _), j / 10, by omega, j / 10, digit j :: o, rfl, by simp; omega, by rw [← hd, hdec], ?_⟩
      simp [St.cut, keep, eget, digit]
    · simp -implicitDefEqProofs only [h, S0, S1, S2, S3, S4, S5, S6, S7, S8, S9, S10, S11, S12, S13, S14, S15, S16, opv, opvs, eget, env0, setD, lenStr, lenSl, isNilP, isNilS, putAt, if_true, if_false, reduceCtorEq, Nat.reduceLeDiff, Nat.reduceEqDiff, Nat.reduceSub, Nat.reduceMul, Nat.reduceAdd]
      have hj0 : j = 0 := by
        have : ¬ (0 : Int) < j := by simpa using h
        omega
      subst hj0
      have ho : o = dec k [] := by rw [← hd, dec]; simp
      have hlen : (((1 + o.length : Nat)) : Int) ≤ 9223372036854775807 := by omega
      simp -implicitDefEqProofs only [hlen, S0, S1, S2, S3, S4, S5, S6, S7, S8, S9, S10, S11, S12, S13, S14, S15, S16, opv, opvs, eget, env0, setD, lenStr, lenSl, isNilP, isNilS, putAt, if_true, if_false, reduceCtorEq, Nat.reduceLeDiff, Nat.reduceEqDiff, Nat.reduceSub, Nat.reduceMul, Nat.reduceAdd]
      exact ret_same0 rfl ⟨by simp [mkRes, markTxt, ho], rfl⟩
theorem textOk : TextOk Try.prog markTxt 31 := fun k σ h1 h2 => markText k h1 (by omega) σ
end Go.Proofs.Ytkppdeobinefbaa.W

end


section
open Go Go.Ab
set_option maxHeartbeats 4000000
set_option maxRecDepth 20000
namespace Go.Proofs.Ytkppdeobinefbaa.W
def c_markStringS : C := (.seq (.ops [⟨(some 12), none, (.mv (.t 0))⟩, ⟨(some 13), none, (.mv (.t 5))⟩, ⟨(some 14), none, (.mv (.t 1))⟩, ⟨(some 15), none, (.call (.c (.fn (.func 31) [])) [(.t 14)])⟩, ⟨(some 16), none, (.indexAddr 1 (.t 12) (.t 13))⟩, ⟨none, none, (.store 1 (.t 16) (.t 15))⟩]) (.ops [⟨(some 17), none, (.mv (.t 1))⟩, ⟨(some 18), none, (.bin .add (.t 17) (.c (.t (.int .i64 1))))⟩, ⟨(some 1), none, (.mv (.t 18))⟩]))
theorem row_markStringS : RowMark Try.prog markTxt 1 c_markStringS [.str] := by
  intro b Q e σ id len i rs row r ji k g0 g5 g1 hl hi hs hr hT hz hO hnd hk hlt hQ
  simp only [isL_cons, isL_nil, is_str] at hT
  obtain ⟨_, _, rfl, ⟨n0, rfl, b0⟩, rfl⟩ := hT
  have hm : T.mkL markTxt k [.str n0] = ([.str (markTxt k)], (k + 1)) := by simp only [mkL_cons, mkL_nil, mkc_int, mkc_bool, mkc_str, Nat.add_assoc, Nat.reduceAdd]
  rw [hm] at hlt hQ
  simp only at hlt hQ
  clear hm
  obtain ⟨_, rfl, hO0⟩ := oc_str hO
  clear hO
  obtain ⟨rfl, rfl⟩ := oc_nil hO0
  have w0 : IntKind.i64.wrap (((k : Nat) : Int) + 1) = (((k + 1) : Nat) : Int) := i64_succ (k := k) (by omega)
  have hidl := (List.getElem?_eq_some_iff.1 hs).1
  have s0 : ∀ o, (σ.set id o)[id]? = some o := fun o => by simp [hidl]
  have rr : ∀ x, (rs.set i x)[i]? = some x := fun x => by simp [hl, hi]
  have hi' : ((i : Nat) : Int) < ((len : Nat) : Int) := by omega
  have three : ((3 : Int) ≠ 0) = True := by simp
  simp (maxSteps := 4000000) -implicitDefEqProofs only [c_markStringS, g0, g5, g1, hs, hr, hl, hi', nat_nn, s0, rr, three, Nat.zero_le, w0, S0, S1, S2, S3, S4, S5, S6, S7, S8, S9, S10, S11, S12, S13, S14, S15, S16, opv, opvs, eget, env0, setD, lenStr, lenSl, isNilP, isNilS, putAt, if_true, if_false, reduceCtorEq, Nat.reduceLeDiff, Nat.reduceEqDiff, Nat.reduceSub, Nat.reduceMul, Nat.reduceAdd]
  refine call_pure (textOk k _ (by omega) (by omega)) ?_
  simp (maxSteps := 4000000) -implicitDefEqProofs only [g0, g5, g1, hs, hr, hl, hi', nat_nn, s0, rr, three, Nat.zero_le, w0, S0, S1, S2, S3, S4, S5, S6, S7, S8, S9, S10, S11, S12, S13, S14, S15, S16, opv, opvs, eget, env0, setD, lenStr, lenSl, isNilP, isNilS, putAt, if_true, if_false, reduceCtorEq, Nat.reduceLeDiff, Nat.reduceEqDiff, Nat.reduceSub, Nat.reduceMul, Nat.reduceAdd]
  refine hQ _ _ [.t (.str (markTxt k))] ?_ ?_ ?_ ?_ ?_ ?_ ?_
  · simp (maxSteps := 4000000) -implicitDefEqProofs only [g0, g5, g1, S0, S1, S2, S3, S4, S5, S6, S7, S8, S9, S10, S11, S12, S13, S14, S15, S16, opv, opvs, eget, env0, setD, lenStr, lenSl, isNilP, isNilS, putAt, if_true, if_false, reduceCtorEq, Nat.reduceLeDiff, Nat.reduceEqDiff, Nat.reduceSub, Nat.reduceMul, Nat.reduceAdd]
  · simp (maxSteps := 4000000) -implicitDefEqProofs only [g0, g5, g1, S0, S1, S2, S3, S4, S5, S6, S7, S8, S9, S10, S11, S12, S13, S14, S15, S16, opv, opvs, eget, env0, setD, lenStr, lenSl, isNilP, isNilS, putAt, if_true, if_false, reduceCtorEq, Nat.reduceLeDiff, Nat.reduceEqDiff, Nat.reduceSub, Nat.reduceMul, Nat.reduceAdd]
  · simp (maxSteps := 4000000) -implicitDefEqProofs only [g0, g5, g1, S0, S1, S2, S3, S4, S5, S6, S7, S8, S9, S10, S11, S12, S13, S14, S15, S16, opv, opvs, eget, env0, setD, lenStr, lenSl, isNilP, isNilS, putAt, if_true, if_false, reduceCtorEq, Nat.reduceLeDiff, Nat.reduceEqDiff, Nat.reduceSub, Nat.reduceMul, Nat.reduceAdd]
  · exact s0 _
  · exact (OwnL.str OwnL.nil0)
  · simp only [List.length_set]
    omega
  · intro j hj hn
    simp only [List.mem_cons, List.mem_append, List.not_mem_nil, not_or, not_false_eq_true, and_true] at hn
    rw [List.getElem?_set_ne (fun e => hn e.symm)]
theorem i_markStringS : Is Try.prog 22 20 [(.tmp 4)] (tMarkS 19 c_markStringS) := ⟨_, _, Try.func22, by decide +kernel, rfl, rfl, by kernel_rfl, rfl⟩
theorem markStringS : MarkOk Try.prog markTxt 22 (.sl 1 [.str]) := markS_ok rfl (by decide) (by decide) i_markStringS row_markStringS
def c_heldStringS : C := (.seq (.seq (.drawn [(.mk 0 false ⟨(some 12), none, (.mv (.t 0))⟩), (.mk 1 false ⟨(some 13), none, (.mv (.t 5))⟩), (.mk 2 false ⟨(some 14), none, (.indexAddr 1 (.t 12) (.t 13))⟩), (.mk 3 false ⟨(some 15), none, (.load none (.t 14))⟩), (.mk 4 false ⟨(some 16), none, (.mv (.t 1))⟩), (.mk 5 true ⟨(some 17), none, (.call (.c (.fn (.func 31) [])) [(.t 16)])⟩), (.mk 6 false ⟨(some 18), none, (.bin .neq (.t 15) (.t 17))⟩)]) (.cond (.t 18) (.seq (.ops [⟨(some 4), none, (.mv (.c (.t (.int .i64 (-1)))))⟩]) .ret) .skip)) (.ops [⟨(some 19), none, (.mv (.t 1))⟩, ⟨(some 20), none, (.bin .add (.t 19) (.c (.t (.int .i64 1))))⟩, ⟨(some 1), none, (.mv (.t 20))⟩]))
theorem row_heldStringS : RowHeld Try.prog markTxt 1 c_heldStringS [.str] := by
  intro b Q e σ i rows row k g0 g5 g1 hr hT hz hk hlt hQ
  simp only [isL_cons, isL_nil, is_str] at hT
  obtain ⟨_, _, rfl, ⟨n0, rfl, b0⟩, rfl⟩ := hT
  have hm : T.mkL markTxt k [.str n0] = ([.str (markTxt k)], (k + 1)) := by simp only [mkL_cons, mkL_nil, mkc_int, mkc_bool, mkc_str, Nat.add_assoc, Nat.reduceAdd]
  rw [hm] at hlt hQ hr
  simp only at hlt hQ hr
  clear hm
  have w0 : IntKind.i64.wrap (((k : Nat) : Int) + 1) = (((k + 1) : Nat) : Int) := i64_succ (k := k) (by omega)
  have three : ((3 : Int) ≠ 0) = True := by simp
  simp (maxSteps := 4000000) -implicitDefEqProofs only [c_heldStringS, g0, g5, g1, hr, nat_nn, three, nat_neg, ne_self, beq_self_eq_true, Nat.zero_le, w0, S0, S1, S2, S3, S4, S5, S6, S7, S8, S9, S10, S11, S12, S13, S14, S15, S16, opv, opvs, eget, env0, setD, lenStr, lenSl, isNilP, isNilS, putAt, if_true, if_false, reduceCtorEq, Nat.reduceLeDiff, Nat.reduceEqDiff, Nat.reduceSub, Nat.reduceMul, Nat.reduceAdd]
  refine call_pure (textOk k _ (by omega) (by omega)) ?_
  simp (maxSteps := 4000000) -implicitDefEqProofs only [g0, g5, g1, hr, nat_nn, three, nat_neg, ne_self, beq_self_eq_true, Nat.zero_le, w0, S0, S1, S2, S3, S4, S5, S6, S7, S8, S9, S10, S11, S12, S13, S14, S15, S16, opv, opvs, eget, env0, setD, lenStr, lenSl, isNilP, isNilS, putAt, if_true, if_false, reduceCtorEq, Nat.reduceLeDiff, Nat.reduceEqDiff, Nat.reduceSub, Nat.reduceMul, Nat.reduceAdd]
  refine hQ _ ?_ ?_ ?_ <;> simp (maxSteps := 4000000) -implicitDefEqProofs only [g0, g5, g1, S0, S1, S2, S3, S4, S5, S6, S7, S8, S9, S10, S11, S12, S13, S14, S15, S16, opv, opvs, eget, env0, setD, lenStr, lenSl, isNilP, isNilS, putAt, if_true, if_false, reduceCtorEq, Nat.reduceLeDiff, Nat.reduceEqDiff, Nat.reduceSub, Nat.reduceMul, Nat.reduceAdd]
theorem i_heldStringS : Is Try.prog 23 22 [(.tmp 4)] (tMarkS 21 c_heldStringS) := ⟨_, _, Try.func23, by decide +kernel, rfl, rfl, by kernel_rfl, rfl⟩
theorem heldStringS : HeldOk Try.prog markTxt 23 (.sl 1 [.str]) := heldS_ok rfl (by decide) (by decide) i_heldStringS row_heldStringS
def c_laws_markSheetCut : C := (.seq (.ops [⟨(some 2), none, (.box (.t 0))⟩, ⟨(some 4), none, (.mv (.c (.t (.int .i64 0))))⟩]) (.seq (.ops [⟨(some 5), none, (.fieldAddr 0 (.t 2))⟩, ⟨(some 6), none, (.load none (.t 5))⟩, ⟨(some 7), none, (.mv (.t 1))⟩, ⟨(some 8), none, (.call (.c (.fn (.func 22) [])) [(.t 6), (.t 7)])⟩, ⟨(some 1), none, (.mv (.t 8))⟩]) (.seq (.ops [⟨(some 9), none, (.mv (.t 1))⟩, ⟨(some 4), none, (.mv (.t 9))⟩]) .ret)))
theorem k_laws_markSheetCut : comp Try.prog 10 (Try.f11.body.getD .skip) = some c_laws_markSheetCut := by kernel_rfl

theorem markSheetCut : MarkLOk Try.prog markTxt 11 shSheetCut := by
  rintro ts us is k σ hT hz hO hnd hk hlt
  obtain ⟨n0, n1, rfl, b0⟩ := isSheetCut hT
  rw [sizeSheetCut] at hz
  have hm : T.mkVL markTxt k [n0, .bool n1] = ([(T.mk markTxt k n0).1, .bool n1], (T.mk markTxt k n0).2) := by simp only [mkVL_cons, mkVL_nil, mkV_int, mkV_bool, mkV_str, mkV_sl b0]
  rw [hm] at hlt ⊢
  simp only at hlt ⊢
  clear hm
  obtain ⟨u0, _, j0, _, rfl, rfl, o0, hO0⟩ := oc_lst hO
  clear hO
  obtain ⟨_, rfl, hO1⟩ := oc_bool hO0
  clear hO0
  obtain ⟨rfl, rfl⟩ := oc_nil hO1
  have l0 := mk_le (mt := markTxt) (k := k) (t := n0)
  refine acalls_of Try.func11 (by decide +kernel) (code := Try.f11.body.getD .skip) (n := 10) (c := c_laws_markSheetCut) (rs := [(.tmp 4)]) rfl rfl k_laws_markSheetCut (by kernel_rfl) (by simp) (fun hσ => ?_)
  obtain ⟨nd0, rest0, dj0, dk0⟩ := nd_app hnd
  have U0 : Own σ n0 u0 j0 := o0
  have N0 := nd0
  have lt0 := U0.lt
  simp (maxSteps := 4000000) -implicitDefEqProofs only [c_laws_markSheetCut, one_cells o0.one, o0.one, S0, S1, S2, S3, S4, S5, S6, S7, S8, S9, S10, S11, S12, S13, S14, S15, S16, opv, opvs, eget, env0, setD, lenStr, lenSl, isNilP, isNilS, putAt, if_true, if_false, reduceCtorEq, Nat.reduceLeDiff, Nat.reduceEqDiff, Nat.reduceSub, Nat.reduceMul, Nat.reduceAdd]
  refine call_by (by rw [List.append_nil]; exact markStringS n0 u0 j0 k _ b0 (by omega) (U0.pre (List.prefix_append _ _)) N0 (by omega) (by omega)) ?_
  rintro r' σ0 ⟨rfl, q0, y0, f0⟩
  have eb0 := f0 σ.length (by first | simp | (simp only [List.length_append, List.length_cons, List.length_nil] at *; omega)) (fun h => Nat.lt_irrefl _ (lt0 _ h))
  rw [q_app_get0] at eb0
  simp only [List.getElem?_cons_zero] at eb0
  simp (maxSteps := 4000000) -implicitDefEqProofs only [eb0, one_cells o0.one, o0.one, S0, S1, S2, S3, S4, S5, S6, S7, S8, S9, S10, S11, S12, S13, S14, S15, S16, opv, opvs, eget, env0, setD, lenStr, lenSl, isNilP, isNilS, putAt, if_true, if_false, reduceCtorEq, Nat.reduceLeDiff, Nat.reduceEqDiff, Nat.reduceSub, Nat.reduceMul, Nat.reduceAdd]
  have hf : OwnL _ [(T.mk markTxt k n0).1, .bool n1] [u0, .t (.bool n1)] _ := (OwnL.lst q0 (OwnL.bool OwnL.nil0))
  try simp only [List.append_assoc, List.append_nil, List.nil_append] at hf
  try simp only [List.append_assoc, List.append_nil, List.nil_append]
  simp only [List.length_append, List.length_cons, List.length_nil] at y0
  refine fin_keep (by omega) ⟨by simp [mkRes], hf, by omega, fun j hj hn => ?_⟩
  try simp only [List.mem_append, List.not_mem_nil, not_or, not_false_eq_true, and_true, or_false] at hn
  rw [f0 j (by first | omega | (simp only [List.length_append, List.length_cons, List.length_nil]; omega)) (by first | exact hn | simp [hn])]
  rw [List.getElem?_append_left hj]
def c_laws_heldSheetCut : C := (.seq (.ops [⟨(some 2), none, (.box (.t 0))⟩, ⟨(some 4), none, (.mv (.c (.t (.int .i64 0))))⟩]) (.seq (.ops [⟨(some 5), none, (.fieldAddr 0 (.t 2))⟩, ⟨(some 6), none, (.load none (.t 5))⟩, ⟨(some 7), none, (.mv (.t 1))⟩, ⟨(some 8), none, (.call (.c (.fn (.func 23) [])) [(.t 6), (.t 7)])⟩, ⟨(some 1), none, (.mv (.t 8))⟩]) (.seq (.seq (.ops [⟨(some 9), none, (.mv (.t 1))⟩, ⟨(some 10), none, (.bin .lss (.t 9) (.c (.t (.int .i64 0))))⟩]) (.cond (.t 10) (.seq (.ops [⟨(some 4), none, (.mv (.c (.t (.int .i64 (-1)))))⟩]) .ret) .skip)) (.seq (.ops [⟨(some 11), none, (.mv (.t 1))⟩, ⟨(some 4), none, (.mv (.t 11))⟩]) .ret))))
theorem k_laws_heldSheetCut : comp Try.prog 12 (Try.f12.body.getD .skip) = some c_laws_heldSheetCut := by kernel_rfl

theorem heldSheetCut : HeldLOk Try.prog markTxt 12 shSheetCut := by
  rintro ts k σ hT hz hk hlt
  obtain ⟨n0, n1, rfl, b0⟩ := isSheetCut hT
  rw [sizeSheetCut] at hz
  have hm : T.mkVL markTxt k [n0, .bool n1] = ([(T.mk markTxt k n0).1, .bool n1], (T.mk markTxt k n0).2) := by simp only [mkVL_cons, mkVL_nil, mkV_int, mkV_bool, mkV_str, mkV_sl b0]
  rw [hm] at hlt ⊢
  simp only at hlt ⊢
  clear hm
  have l0 := mk_le (mt := markTxt) (k := k) (t := n0)
  refine acalls_of Try.func12 (by decide +kernel) (code := Try.f12.body.getD .skip) (n := 12) (c := c_laws_heldSheetCut) (rs := [(.tmp 4)]) rfl rfl k_laws_heldSheetCut (by kernel_rfl) (by simp) (fun hσ => ?_)
  have H0 := fun σ' => heldStringS n0 k σ' b0 (by omega) (by omega) (by omega)
  simp (maxSteps := 4000000) -implicitDefEqProofs only [c_laws_heldSheetCut, nat_neg, S0, S1, S2, S3, S4, S5, S6, S7, S8, S9, S10, S11, S12, S13, S14, S15, S16, opv, opvs, eget, env0, setD, lenStr, lenSl, isNilP, isNilS, putAt, if_true, if_false, reduceCtorEq, Nat.reduceLeDiff, Nat.reduceEqDiff, Nat.reduceSub, Nat.reduceMul, Nat.reduceAdd]
  refine call_pure (H0 _) ?_
  simp (maxSteps := 4000000) -implicitDefEqProofs only [nat_neg, S0, S1, S2, S3, S4, S5, S6, S7, S8, S9, S10, S11, S12, S13, S14, S15, S16, opv, opvs, eget, env0, setD, lenStr, lenSl, isNilP, isNilS, putAt, if_true, if_false, reduceCtorEq, Nat.reduceLeDiff, Nat.reduceEqDiff, Nat.reduceSub, Nat.reduceMul, Nat.reduceAdd]
  exact ret_same rfl hσ rfl ⟨rfl, rfl⟩
end Go.Proofs.Ytkppdeobinefbaa.W

end
