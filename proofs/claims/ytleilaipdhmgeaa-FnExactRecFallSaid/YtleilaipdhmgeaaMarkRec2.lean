/- Marks and looks at them again, for these structs (printed by marks.py). Conditions: none. -/
import Derived.Test.YtleilaipdhmgeaaLawRec2
import Derived.Test.YtleilaipdhmgeaaMarkRec
import Derived.Test.YtleilaipdhmgeaaAbV
import Derived.IntWalk
import Derived.KernelRfl
set_option linter.unusedSimpArgs false
set_option linter.unusedVariables false
set_option linter.defProp false
open Go Go.Ab
set_option maxHeartbeats 4000000
set_option maxRecDepth 20000
namespace Go.Proofs.Ytleilaipdhmgeaa.W
def c_laws_markRecorder : C := (.seq (.ops [⟨(some 2), none, (.box (.t 0))⟩, ⟨(some 4), none, (.mv (.c (.t (.int .i64 0))))⟩]) (.seq (.ops [⟨(some 5), none, (.fieldAddr 3 (.t 2))⟩, ⟨(some 6), none, (.load (some 3) (.t 5))⟩, ⟨(some 7), none, (.mv (.t 1))⟩, ⟨(some 8), none, (.call (.c (.fn (.func 91) [])) [(.t 6), (.t 7)])⟩, ⟨(some 1), none, (.mv (.t 8))⟩]) (.seq (.ops [⟨(some 9), none, (.fieldAddr 6 (.t 2))⟩, ⟨(some 10), none, (.load (some 3) (.t 9))⟩, ⟨(some 11), none, (.mv (.t 1))⟩, ⟨(some 12), none, (.call (.c (.fn (.func 91) [])) [(.t 10), (.t 11)])⟩, ⟨(some 1), none, (.mv (.t 12))⟩]) (.seq (.ops [⟨(some 13), none, (.fieldAddr 9 (.t 2))⟩, ⟨(some 14), none, (.load none (.t 13))⟩, ⟨(some 15), none, (.mv (.t 1))⟩, ⟨(some 16), none, (.call (.c (.fn (.func 92) [])) [(.t 14), (.t 15)])⟩, ⟨(some 1), none, (.mv (.t 16))⟩]) (.seq (.ops [⟨(some 17), none, (.fieldAddr 10 (.t 2))⟩, ⟨(some 18), none, (.load none (.t 17))⟩, ⟨(some 19), none, (.mv (.t 1))⟩, ⟨(some 20), none, (.call (.c (.fn (.func 55) [])) [(.t 18), (.t 19)])⟩, ⟨(some 1), none, (.mv (.t 20))⟩]) (.seq (.ops [⟨(some 21), none, (.fieldAddr 14 (.t 2))⟩, ⟨(some 22), none, (.load none (.t 21))⟩, ⟨(some 23), none, (.mv (.t 1))⟩, ⟨(some 24), none, (.call (.c (.fn (.func 93) [])) [(.t 22), (.t 23)])⟩, ⟨(some 1), none, (.mv (.t 24))⟩]) (.seq (.ops [⟨(some 25), none, (.fieldAddr 15 (.t 2))⟩, ⟨(some 26), none, (.load none (.t 25))⟩, ⟨(some 27), none, (.mv (.t 1))⟩, ⟨(some 28), none, (.call (.c (.fn (.func 26) [])) [(.t 26), (.t 27)])⟩, ⟨(some 1), none, (.mv (.t 28))⟩]) (.seq (.ops [⟨(some 29), none, (.fieldAddr 16 (.t 2))⟩, ⟨(some 30), none, (.load none (.t 29))⟩, ⟨(some 31), none, (.mv (.t 1))⟩, ⟨(some 32), none, (.call (.c (.fn (.func 94) [])) [(.t 30), (.t 31)])⟩, ⟨(some 1), none, (.mv (.t 32))⟩]) (.seq (.ops [⟨(some 33), none, (.mv (.t 1))⟩, ⟨(some 4), none, (.mv (.t 33))⟩]) .ret)))))))))
theorem k_laws_markRecorder : comp Try.prog 34 (Try.f41.body.getD .skip) = some c_laws_markRecorder := by kernel_rfl

theorem markRecorder : MarkLOk Try.prog markTxt 41 shRecorder := by
  rintro ts us is k σ hT hz hO hnd hk hlt
  obtain ⟨n0, n1, n2, n3, n4, n5, n6, n7, n8, n9, n10, n11, n12, n13, n14, n15, n16, n17, rfl, b0, b1, b3, b4, b5, b6, b7, b8, b9, b10, b13, b14, b15, b16, b17⟩ := isRecorder hT
  rw [sizeRecorder] at hz
  have hm : T.mkVL markTxt k [.int .i64 n0, .int .i64 n1, .bool n2, .int .i64 n3, .int .i64 n4, n5, .int .i64 n6, .int .i64 n7, n8, n9, n10, .bool n11, .bool n12, .int .i64 n13, n14, n15, n16, .int .i64 n17] = ([.int .i64 n0, .int .i64 n1, .bool n2, .int .i64 n3, .int .i64 n4, (T.mk markTxt k n5).1, .int .i64 n6, .int .i64 n7, (T.mk markTxt (T.mk markTxt k n5).2 n8).1, (T.mk markTxt (T.mk markTxt (T.mk markTxt k n5).2 n8).2 n9).1, (T.mk markTxt (T.mk markTxt (T.mk markTxt (T.mk markTxt k n5).2 n8).2 n9).2 n10).1, .bool n11, .bool n12, .int .i64 n13, (T.mk markTxt (T.mk markTxt (T.mk markTxt (T.mk markTxt (T.mk markTxt k n5).2 n8).2 n9).2 n10).2 n14).1, (T.mk markTxt (T.mk markTxt (T.mk markTxt (T.mk markTxt (T.mk markTxt (T.mk markTxt k n5).2 n8).2 n9).2 n10).2 n14).2 n15).1, (T.mk markTxt (T.mk markTxt (T.mk markTxt (T.mk markTxt (T.mk markTxt (T.mk markTxt (T.mk markTxt k n5).2 n8).2 n9).2 n10).2 n14).2 n15).2 n16).1, .int .i64 n17], (T.mk markTxt (T.mk markTxt (T.mk markTxt (T.mk markTxt (T.mk markTxt (T.mk markTxt (T.mk markTxt k n5).2 n8).2 n9).2 n10).2 n14).2 n15).2 n16).2) := by simp only [mkVL_cons, mkVL_nil, mkV_int, mkV_bool, mkV_str, mkV_sl b5, mkV_sl b8, mkV_sl b9, mkV_sl b10, mkV_sl b14, mkV_sl b15, mkV_sl b16]
  rw [hm] at hlt ⊢
  simp only at hlt ⊢
  clear hm
  obtain ⟨_, rfl, hO0⟩ := oc_int hO
  clear hO
  obtain ⟨_, rfl, hO1⟩ := oc_int hO0
  clear hO0
  obtain ⟨_, rfl, hO2⟩ := oc_bool hO1
  clear hO1
  obtain ⟨_, rfl, hO3⟩ := oc_int hO2
  clear hO2
  obtain ⟨_, rfl, hO4⟩ := oc_int hO3
  clear hO3
  obtain ⟨u5, _, j5, _, rfl, rfl, o5, hO5⟩ := oc_lst hO4
  clear hO4
  obtain ⟨_, rfl, hO6⟩ := oc_int hO5
  clear hO5
  obtain ⟨_, rfl, hO7⟩ := oc_int hO6
  clear hO6
  obtain ⟨u8, _, j8, _, rfl, rfl, o8, hO8⟩ := oc_lst hO7
  clear hO7
  obtain ⟨u9, _, j9, _, rfl, rfl, o9, hO9⟩ := oc_lst hO8
  clear hO8
  obtain ⟨u10, _, j10, _, rfl, rfl, o10, hO10⟩ := oc_lst hO9
  clear hO9
  obtain ⟨_, rfl, hO11⟩ := oc_bool hO10
  clear hO10
  obtain ⟨_, rfl, hO12⟩ := oc_bool hO11
  clear hO11
  obtain ⟨_, rfl, hO13⟩ := oc_int hO12
  clear hO12
  obtain ⟨u14, _, j14, _, rfl, rfl, o14, hO14⟩ := oc_lst hO13
  clear hO13
  obtain ⟨u15, _, j15, _, rfl, rfl, o15, hO15⟩ := oc_lst hO14
  clear hO14
  obtain ⟨u16, _, j16, _, rfl, rfl, o16, hO16⟩ := oc_lst hO15
  clear hO15
  obtain ⟨_, rfl, hO17⟩ := oc_int hO16
  clear hO16
  obtain ⟨rfl, rfl⟩ := oc_nil hO17
  have l5 := mk_le (mt := markTxt) (k := k) (t := n5)
  have l8 := mk_le (mt := markTxt) (k := (T.mk markTxt k n5).2) (t := n8)
  have l9 := mk_le (mt := markTxt) (k := (T.mk markTxt (T.mk markTxt k n5).2 n8).2) (t := n9)
  have l10 := mk_le (mt := markTxt) (k := (T.mk markTxt (T.mk markTxt (T.mk markTxt k n5).2 n8).2 n9).2) (t := n10)
  have l14 := mk_le (mt := markTxt) (k := (T.mk markTxt (T.mk markTxt (T.mk markTxt (T.mk markTxt k n5).2 n8).2 n9).2 n10).2) (t := n14)
  have l15 := mk_le (mt := markTxt) (k := (T.mk markTxt (T.mk markTxt (T.mk markTxt (T.mk markTxt (T.mk markTxt k n5).2 n8).2 n9).2 n10).2 n14).2) (t := n15)
  have l16 := mk_le (mt := markTxt) (k := (T.mk markTxt (T.mk markTxt (T.mk markTxt (T.mk markTxt (T.mk markTxt (T.mk markTxt k n5).2 n8).2 n9).2 n10).2 n14).2 n15).2) (t := n16)
  refine acalls_of Try.func41 (by decide +kernel) (code := Try.f41.body.getD .skip) (n := 34) (c := c_laws_markRecorder) (rs := [(.tmp 4)]) rfl rfl k_laws_markRecorder (by kernel_rfl) (by simp) (fun hσ => ?_)
  obtain ⟨nd5, rest5, dj5, dk5⟩ := nd_app hnd
  obtain ⟨nd8, rest8, dj8, dk8⟩ := nd_app rest5
  obtain ⟨nd9, rest9, dj9, dk9⟩ := nd_app rest8
  obtain ⟨nd10, rest10, dj10, dk10⟩ := nd_app rest9
  obtain ⟨nd14, rest14, dj14, dk14⟩ := nd_app rest10
  obtain ⟨nd15, rest15, dj15, dk15⟩ := nd_app rest14
  obtain ⟨nd16, rest16, dj16, dk16⟩ := nd_app rest15
  have U3 : OwnL σ [.int .i64 n3, .int .i64 n4, n5] [.t (.int .i64 n3), .t (.int .i64 n4), u5] (j5 ++ []) := (OwnL.int (OwnL.int (OwnL.lst o5 OwnL.nil0)))
  have N3 : ((j5 ++ [])).Nodup := by rw [List.append_nil]; exact nd5
  have lt3 := U3.lt
  have U6 : OwnL σ [.int .i64 n6, .int .i64 n7, n8] [.t (.int .i64 n6), .t (.int .i64 n7), u8] (j8 ++ []) := (OwnL.int (OwnL.int (OwnL.lst o8 OwnL.nil0)))
  have N6 : ((j8 ++ [])).Nodup := by rw [List.append_nil]; exact nd8
  have lt6 := U6.lt
  have U9 : Own σ n9 u9 j9 := o9
  have N9 := nd9
  have lt9 := U9.lt
  have U10 : Own σ n10 u10 j10 := o10
  have N10 := nd10
  have lt10 := U10.lt
  have U14 : Own σ n14 u14 j14 := o14
  have N14 := nd14
  have lt14 := U14.lt
  have U15 : Own σ n15 u15 j15 := o15
  have N15 := nd15
  have lt15 := U15.lt
  have U16 : Own σ n16 u16 j16 := o16
  have N16 := nd16
  have lt16 := U16.lt
  simp -implicitDefEqProofs only [c_laws_markRecorder, one_cells o5.one, o5.one, one_cells o8.one, o8.one, one_cells o9.one, o9.one, one_cells o10.one, o10.one, one_cells o14.one, o14.one, one_cells o15.one, o15.one, one_cells o16.one, o16.one, S0, S1, S2, S3, S4, S5, S6, S7, S8, S9, S10, S11, S12, S13, S14, S15, opv, opvs, eget, env0, setD, lenStr, lenSl, isNilP, isNilS, putAt, if_true, if_false, reduceCtorEq, Nat.reduceLeDiff, Nat.reduceEqDiff, Nat.reduceSub, Nat.reduceMul, Nat.reduceAdd]
  have hm3 : T.mkVL markTxt k [.int .i64 n3, .int .i64 n4, n5] = ([.int .i64 n3, .int .i64 n4, (T.mk markTxt k n5).1], (T.mk markTxt k n5).2) := by simp only [mkVL_cons, mkVL_nil, mkV_int, mkV_bool, mkV_str, mkV_sl b5]
  refine call_by (by rw [List.append_nil]; exact markRecDisk _ _ _ k _ (mkRecDisk b3 b4 b5) (by rw [sizeRecDisk]; omega) (U3.pre (List.prefix_append _ _)) N3 (by omega) (by rw [hm3]; simp only; omega)) ?_
  rw [hm3]
  rintro r' σ3 ⟨rfl, q3, y3, f3⟩
  have eb3 := f3 σ.length (by first | simp | (simp only [List.length_append, List.length_cons, List.length_nil] at *; omega)) (fun h => Nat.lt_irrefl _ (lt3 _ h))
  rw [q_app_get0] at eb3
  simp only [List.getElem?_cons_zero] at eb3
  simp -implicitDefEqProofs only [eb3, one_cells o5.one, o5.one, one_cells o8.one, o8.one, one_cells o9.one, o9.one, one_cells o10.one, o10.one, one_cells o14.one, o14.one, one_cells o15.one, o15.one, one_cells o16.one, o16.one, S0, S1, S2, S3, S4, S5, S6, S7, S8, S9, S10, S11, S12, S13, S14, S15, opv, opvs, eget, env0, setD, lenStr, lenSl, isNilP, isNilS, putAt, if_true, if_false, reduceCtorEq, Nat.reduceLeDiff, Nat.reduceEqDiff, Nat.reduceSub, Nat.reduceMul, Nat.reduceAdd]
  have hm6 : T.mkVL markTxt (T.mk markTxt k n5).2 [.int .i64 n6, .int .i64 n7, n8] = ([.int .i64 n6, .int .i64 n7, (T.mk markTxt (T.mk markTxt k n5).2 n8).1], (T.mk markTxt (T.mk markTxt k n5).2 n8).2) := by simp only [mkVL_cons, mkVL_nil, mkV_int, mkV_bool, mkV_str, mkV_sl b8]
  refine call_by (by rw [List.append_nil]; exact markRecDisk _ _ _ (T.mk markTxt k n5).2 _ (mkRecDisk b6 b7 b8) (by rw [sizeRecDisk]; omega) ((U6.pre (List.prefix_append _ _)).other f3 (by intro x hx h; (try simp only [List.mem_append, List.not_mem_nil, or_false] at hx); (try simp only [List.mem_append, List.not_mem_nil, or_false] at h); exact dj5 x h (by simp [hx]))) N6 (by omega) (by rw [hm6]; simp only; omega)) ?_
  rw [hm6]
  rintro r' σ6 ⟨rfl, q6, y6, f6⟩
  have eb6 := f6 σ.length (by first | simp | (simp only [List.length_append, List.length_cons, List.length_nil] at *; omega)) (fun h => Nat.lt_irrefl _ (lt6 _ h))
  rw [eb3] at eb6
  simp -implicitDefEqProofs only [eb6, eb3, one_cells o5.one, o5.one, one_cells o8.one, o8.one, one_cells o9.one, o9.one, one_cells o10.one, o10.one, one_cells o14.one, o14.one, one_cells o15.one, o15.one, one_cells o16.one, o16.one, S0, S1, S2, S3, S4, S5, S6, S7, S8, S9, S10, S11, S12, S13, S14, S15, opv, opvs, eget, env0, setD, lenStr, lenSl, isNilP, isNilS, putAt, if_true, if_false, reduceCtorEq, Nat.reduceLeDiff, Nat.reduceEqDiff, Nat.reduceSub, Nat.reduceMul, Nat.reduceAdd]
  refine call_by (by rw [List.append_nil]; exact markRecMessageS n9 u9 j9 (T.mk markTxt (T.mk markTxt k n5).2 n8).2 _ b9 (by omega) (((U9.pre (List.prefix_append _ _)).other f3 (by intro x hx h; (try simp only [List.mem_append, List.not_mem_nil, or_false] at hx); (try simp only [List.mem_append, List.not_mem_nil, or_false] at h); exact dj5 x h (by simp [hx]))).other f6 (by intro x hx h; (try simp only [List.mem_append, List.not_mem_nil, or_false] at hx); (try simp only [List.mem_append, List.not_mem_nil, or_false] at h); exact dj8 x h (by simp [hx]))) N9 (by omega) (by omega)) ?_
  rintro r' σ9 ⟨rfl, q9, y9, f9⟩
  have eb9 := f9 σ.length (by first | simp | (simp only [List.length_append, List.length_cons, List.length_nil] at *; omega)) (fun h => Nat.lt_irrefl _ (lt9 _ h))
  rw [eb6] at eb9
  simp -implicitDefEqProofs only [eb9, eb6, eb3, one_cells o5.one, o5.one, one_cells o8.one, o8.one, one_cells o9.one, o9.one, one_cells o10.one, o10.one, one_cells o14.one, o14.one, one_cells o15.one, o15.one, one_cells o16.one, o16.one, S0, S1, S2, S3, S4, S5, S6, S7, S8, S9, S10, S11, S12, S13, S14, S15, opv, opvs, eget, env0, setD, lenStr, lenSl, isNilP, isNilS, putAt, if_true, if_false, reduceCtorEq, Nat.reduceLeDiff, Nat.reduceEqDiff, Nat.reduceSub, Nat.reduceMul, Nat.reduceAdd]
  refine call_by (by rw [List.append_nil]; exact markStringS n10 u10 j10 (T.mk markTxt (T.mk markTxt (T.mk markTxt k n5).2 n8).2 n9).2 _ b10 (by omega) ((((U10.pre (List.prefix_append _ _)).other f3 (by intro x hx h; (try simp only [List.mem_append, List.not_mem_nil, or_false] at hx); (try simp only [List.mem_append, List.not_mem_nil, or_false] at h); exact dj5 x h (by simp [hx]))).other f6 (by intro x hx h; (try simp only [List.mem_append, List.not_mem_nil, or_false] at hx); (try simp only [List.mem_append, List.not_mem_nil, or_false] at h); exact dj8 x h (by simp [hx]))).other f9 (by intro x hx h; (try simp only [List.mem_append, List.not_mem_nil, or_false] at hx); (try simp only [List.mem_append, List.not_mem_nil, or_false] at h); exact dj9 x h (by simp [hx]))) N10 (by omega) (by omega)) ?_
  rintro r' σ10 ⟨rfl, q10, y10, f10⟩
  have eb10 := f10 σ.length (by first | simp | (simp only [List.length_append, List.length_cons, List.length_nil] at *; omega)) (fun h => Nat.lt_irrefl _ (lt10 _ h))
  rw [eb9] at eb10
  simp -implicitDefEqProofs only [eb10, eb9, eb6, eb3, one_cells o5.one, o5.one, one_cells o8.one, o8.one, one_cells o9.one, o9.one, one_cells o10.one, o10.one, one_cells o14.one, o14.one, one_cells o15.one, o15.one, one_cells o16.one, o16.one, S0, S1, S2, S3, S4, S5, S6, S7, S8, S9, S10, S11, S12, S13, S14, S15, opv, opvs, eget, env0, setD, lenStr, lenSl, isNilP, isNilS, putAt, if_true, if_false, reduceCtorEq, Nat.reduceLeDiff, Nat.reduceEqDiff, Nat.reduceSub, Nat.reduceMul, Nat.reduceAdd]
  refine call_by (by rw [List.append_nil]; exact markIntS n14 u14 j14 (T.mk markTxt (T.mk markTxt (T.mk markTxt (T.mk markTxt k n5).2 n8).2 n9).2 n10).2 _ b14 (by omega) (((((U14.pre (List.prefix_append _ _)).other f3 (by intro x hx h; (try simp only [List.mem_append, List.not_mem_nil, or_false] at hx); (try simp only [List.mem_append, List.not_mem_nil, or_false] at h); exact dj5 x h (by simp [hx]))).other f6 (by intro x hx h; (try simp only [List.mem_append, List.not_mem_nil, or_false] at hx); (try simp only [List.mem_append, List.not_mem_nil, or_false] at h); exact dj8 x h (by simp [hx]))).other f9 (by intro x hx h; (try simp only [List.mem_append, List.not_mem_nil, or_false] at hx); (try simp only [List.mem_append, List.not_mem_nil, or_false] at h); exact dj9 x h (by simp [hx]))).other f10 (by intro x hx h; (try simp only [List.mem_append, List.not_mem_nil, or_false] at hx); (try simp only [List.mem_append, List.not_mem_nil, or_false] at h); exact dj10 x h (by simp [hx]))) N14 (by omega) (by omega)) ?_
  rintro r' σ14 ⟨rfl, q14, y14, f14⟩
  have eb14 := f14 σ.length (by first | simp | (simp only [List.length_append, List.length_cons, List.length_nil] at *; omega)) (fun h => Nat.lt_irrefl _ (lt14 _ h))
  rw [eb10] at eb14
  simp -implicitDefEqProofs only [eb14, eb10, eb9, eb6, eb3, one_cells o5.one, o5.one, one_cells o8.one, o8.one, one_cells o9.one, o9.one, one_cells o10.one, o10.one, one_cells o14.one, o14.one, one_cells o15.one, o15.one, one_cells o16.one, o16.one, S0, S1, S2, S3, S4, S5, S6, S7, S8, S9, S10, S11, S12, S13, S14, S15, opv, opvs, eget, env0, setD, lenStr, lenSl, isNilP, isNilS, putAt, if_true, if_false, reduceCtorEq, Nat.reduceLeDiff, Nat.reduceEqDiff, Nat.reduceSub, Nat.reduceMul, Nat.reduceAdd]
  refine call_by (by rw [List.append_nil]; exact markRecSlotS n15 u15 j15 (T.mk markTxt (T.mk markTxt (T.mk markTxt (T.mk markTxt (T.mk markTxt k n5).2 n8).2 n9).2 n10).2 n14).2 _ b15 (by omega) ((((((U15.pre (List.prefix_append _ _)).other f3 (by intro x hx h; (try simp only [List.mem_append, List.not_mem_nil, or_false] at hx); (try simp only [List.mem_append, List.not_mem_nil, or_false] at h); exact dj5 x h (by simp [hx]))).other f6 (by intro x hx h; (try simp only [List.mem_append, List.not_mem_nil, or_false] at hx); (try simp only [List.mem_append, List.not_mem_nil, or_false] at h); exact dj8 x h (by simp [hx]))).other f9 (by intro x hx h; (try simp only [List.mem_append, List.not_mem_nil, or_false] at hx); (try simp only [List.mem_append, List.not_mem_nil, or_false] at h); exact dj9 x h (by simp [hx]))).other f10 (by intro x hx h; (try simp only [List.mem_append, List.not_mem_nil, or_false] at hx); (try simp only [List.mem_append, List.not_mem_nil, or_false] at h); exact dj10 x h (by simp [hx]))).other f14 (by intro x hx h; (try simp only [List.mem_append, List.not_mem_nil, or_false] at hx); (try simp only [List.mem_append, List.not_mem_nil, or_false] at h); exact dj14 x h (by simp [hx]))) N15 (by omega) (by omega)) ?_
  rintro r' σ15 ⟨rfl, q15, y15, f15⟩
  have eb15 := f15 σ.length (by first | simp | (simp only [List.length_append, List.length_cons, List.length_nil] at *; omega)) (fun h => Nat.lt_irrefl _ (lt15 _ h))
  rw [eb14] at eb15
  simp -implicitDefEqProofs only [eb15, eb14, eb10, eb9, eb6, eb3, one_cells o5.one, o5.one, one_cells o8.one, o8.one, one_cells o9.one, o9.one, one_cells o10.one, o10.one, one_cells o14.one, o14.one, one_cells o15.one, o15.one, one_cells o16.one, o16.one, S0, S1, S2, S3, S4, S5, S6, S7, S8, S9, S10, S11, S12, S13, S14, S15, opv, opvs, eget, env0, setD, lenStr, lenSl, isNilP, isNilS, putAt, if_true, if_false, reduceCtorEq, Nat.reduceLeDiff, Nat.reduceEqDiff, Nat.reduceSub, Nat.reduceMul, Nat.reduceAdd]
  refine call_by (by rw [List.append_nil]; exact markRecAckS n16 u16 j16 (T.mk markTxt (T.mk markTxt (T.mk markTxt (T.mk markTxt (T.mk markTxt (T.mk markTxt k n5).2 n8).2 n9).2 n10).2 n14).2 n15).2 _ b16 (by omega) (((((((U16.pre (List.prefix_append _ _)).other f3 (by intro x hx h; (try simp only [List.mem_append, List.not_mem_nil, or_false] at hx); (try simp only [List.mem_append, List.not_mem_nil, or_false] at h); exact dj5 x h (by simp [hx]))).other f6 (by intro x hx h; (try simp only [List.mem_append, List.not_mem_nil, or_false] at hx); (try simp only [List.mem_append, List.not_mem_nil, or_false] at h); exact dj8 x h (by simp [hx]))).other f9 (by intro x hx h; (try simp only [List.mem_append, List.not_mem_nil, or_false] at hx); (try simp only [List.mem_append, List.not_mem_nil, or_false] at h); exact dj9 x h (by simp [hx]))).other f10 (by intro x hx h; (try simp only [List.mem_append, List.not_mem_nil, or_false] at hx); (try simp only [List.mem_append, List.not_mem_nil, or_false] at h); exact dj10 x h (by simp [hx]))).other f14 (by intro x hx h; (try simp only [List.mem_append, List.not_mem_nil, or_false] at hx); (try simp only [List.mem_append, List.not_mem_nil, or_false] at h); exact dj14 x h (by simp [hx]))).other f15 (by intro x hx h; (try simp only [List.mem_append, List.not_mem_nil, or_false] at hx); (try simp only [List.mem_append, List.not_mem_nil, or_false] at h); exact dj15 x h (by simp [hx]))) N16 (by omega) (by omega)) ?_
  rintro r' σ16 ⟨rfl, q16, y16, f16⟩
  have eb16 := f16 σ.length (by first | simp | (simp only [List.length_append, List.length_cons, List.length_nil] at *; omega)) (fun h => Nat.lt_irrefl _ (lt16 _ h))
  rw [eb15] at eb16
  simp -implicitDefEqProofs only [eb16, eb15, eb14, eb10, eb9, eb6, eb3, one_cells o5.one, o5.one, one_cells o8.one, o8.one, one_cells o9.one, o9.one, one_cells o10.one, o10.one, one_cells o14.one, o14.one, one_cells o15.one, o15.one, one_cells o16.one, o16.one, S0, S1, S2, S3, S4, S5, S6, S7, S8, S9, S10, S11, S12, S13, S14, S15, opv, opvs, eget, env0, setD, lenStr, lenSl, isNilP, isNilS, putAt, if_true, if_false, reduceCtorEq, Nat.reduceLeDiff, Nat.reduceEqDiff, Nat.reduceSub, Nat.reduceMul, Nat.reduceAdd]
  have hf : OwnL _ [.int .i64 n0, .int .i64 n1, .bool n2, .int .i64 n3, .int .i64 n4, (T.mk markTxt k n5).1, .int .i64 n6, .int .i64 n7, (T.mk markTxt (T.mk markTxt k n5).2 n8).1, (T.mk markTxt (T.mk markTxt (T.mk markTxt k n5).2 n8).2 n9).1, (T.mk markTxt (T.mk markTxt (T.mk markTxt (T.mk markTxt k n5).2 n8).2 n9).2 n10).1, .bool n11, .bool n12, .int .i64 n13, (T.mk markTxt (T.mk markTxt (T.mk markTxt (T.mk markTxt (T.mk markTxt k n5).2 n8).2 n9).2 n10).2 n14).1, (T.mk markTxt (T.mk markTxt (T.mk markTxt (T.mk markTxt (T.mk markTxt (T.mk markTxt k n5).2 n8).2 n9).2 n10).2 n14).2 n15).1, (T.mk markTxt (T.mk markTxt (T.mk markTxt (T.mk markTxt (T.mk markTxt (T.mk markTxt (T.mk markTxt k n5).2 n8).2 n9).2 n10).2 n14).2 n15).2 n16).1, .int .i64 n17] [.t (.int .i64 n0), .t (.int .i64 n1), .t (.bool n2), .t (.int .i64 n3), .t (.int .i64 n4), u5, .t (.int .i64 n6), .t (.int .i64 n7), u8, u9, u10, .t (.bool n11), .t (.bool n12), .t (.int .i64 n13), u14, u15, u16, .t (.int .i64 n17)] _ := (OwnL.int (OwnL.int (OwnL.bool (own_app3 ((((((q3.other f6 (by intro x hx h; (try simp only [List.mem_append, List.not_mem_nil, or_false] at hx); (try simp only [List.mem_append, List.not_mem_nil, or_false] at h); exact dj5 x hx (by simp [h]))).other f9 (by intro x hx h; (try simp only [List.mem_append, List.not_mem_nil, or_false] at hx); (try simp only [List.mem_append, List.not_mem_nil, or_false] at h); exact dj5 x hx (by simp [h]))).other f10 (by intro x hx h; (try simp only [List.mem_append, List.not_mem_nil, or_false] at hx); (try simp only [List.mem_append, List.not_mem_nil, or_false] at h); exact dj5 x hx (by simp [h]))).other f14 (by intro x hx h; (try simp only [List.mem_append, List.not_mem_nil, or_false] at hx); (try simp only [List.mem_append, List.not_mem_nil, or_false] at h); exact dj5 x hx (by simp [h]))).other f15 (by intro x hx h; (try simp only [List.mem_append, List.not_mem_nil, or_false] at hx); (try simp only [List.mem_append, List.not_mem_nil, or_false] at h); exact dj5 x hx (by simp [h]))).other f16 (by intro x hx h; (try simp only [List.mem_append, List.not_mem_nil, or_false] at hx); (try simp only [List.mem_append, List.not_mem_nil, or_false] at h); exact dj5 x hx (by simp [h]))) (own_app3 (((((q6.other f9 (by intro x hx h; (try simp only [List.mem_append, List.not_mem_nil, or_false] at hx); (try simp only [List.mem_append, List.not_mem_nil, or_false] at h); exact dj8 x hx (by simp [h]))).other f10 (by intro x hx h; (try simp only [List.mem_append, List.not_mem_nil, or_false] at hx); (try simp only [List.mem_append, List.not_mem_nil, or_false] at h); exact dj8 x hx (by simp [h]))).other f14 (by intro x hx h; (try simp only [List.mem_append, List.not_mem_nil, or_false] at hx); (try simp only [List.mem_append, List.not_mem_nil, or_false] at h); exact dj8 x hx (by simp [h]))).other f15 (by intro x hx h; (try simp only [List.mem_append, List.not_mem_nil, or_false] at hx); (try simp only [List.mem_append, List.not_mem_nil, or_false] at h); exact dj8 x hx (by simp [h]))).other f16 (by intro x hx h; (try simp only [List.mem_append, List.not_mem_nil, or_false] at hx); (try simp only [List.mem_append, List.not_mem_nil, or_false] at h); exact dj8 x hx (by simp [h]))) (OwnL.lst ((((q9.other f10 (by intro x hx h; (try simp only [List.mem_append, List.not_mem_nil, or_false] at hx); (try simp only [List.mem_append, List.not_mem_nil, or_false] at h); exact dj9 x hx (by simp [h]))).other f14 (by intro x hx h; (try simp only [List.mem_append, List.not_mem_nil, or_false] at hx); (try simp only [List.mem_append, List.not_mem_nil, or_false] at h); exact dj9 x hx (by simp [h]))).other f15 (by intro x hx h; (try simp only [List.mem_append, List.not_mem_nil, or_false] at hx); (try simp only [List.mem_append, List.not_mem_nil, or_false] at h); exact dj9 x hx (by simp [h]))).other f16 (by intro x hx h; (try simp only [List.mem_append, List.not_mem_nil, or_false] at hx); (try simp only [List.mem_append, List.not_mem_nil, or_false] at h); exact dj9 x hx (by simp [h]))) (OwnL.lst (((q10.other f14 (by intro x hx h; (try simp only [List.mem_append, List.not_mem_nil, or_false] at hx); (try simp only [List.mem_append, List.not_mem_nil, or_false] at h); exact dj10 x hx (by simp [h]))).other f15 (by intro x hx h; (try simp only [List.mem_append, List.not_mem_nil, or_false] at hx); (try simp only [List.mem_append, List.not_mem_nil, or_false] at h); exact dj10 x hx (by simp [h]))).other f16 (by intro x hx h; (try simp only [List.mem_append, List.not_mem_nil, or_false] at hx); (try simp only [List.mem_append, List.not_mem_nil, or_false] at h); exact dj10 x hx (by simp [h]))) (OwnL.bool (OwnL.bool (OwnL.int (OwnL.lst ((q14.other f15 (by intro x hx h; (try simp only [List.mem_append, List.not_mem_nil, or_false] at hx); (try simp only [List.mem_append, List.not_mem_nil, or_false] at h); exact dj14 x hx (by simp [h]))).other f16 (by intro x hx h; (try simp only [List.mem_append, List.not_mem_nil, or_false] at hx); (try simp only [List.mem_append, List.not_mem_nil, or_false] at h); exact dj14 x hx (by simp [h]))) (OwnL.lst (q15.other f16 (by intro x hx h; (try simp only [List.mem_append, List.not_mem_nil, or_false] at hx); (try simp only [List.mem_append, List.not_mem_nil, or_false] at h); exact dj15 x hx (by simp [h]))) (OwnL.lst q16 (OwnL.int OwnL.nil0))))))))))))))
  try simp only [List.append_assoc, List.append_nil, List.nil_append] at hf
  try simp only [List.append_assoc, List.append_nil, List.nil_append]
  simp only [List.length_append, List.length_cons, List.length_nil] at y3 y6 y9 y10 y14 y15 y16
  refine fin_keep (by omega) ⟨by simp [mkRes], hf, by omega, fun j hj hn => ?_⟩
  try simp only [List.mem_append, List.not_mem_nil, not_or, not_false_eq_true, and_true, or_false] at hn
  rw [f16 j (by first | omega | (simp only [List.length_append, List.length_cons, List.length_nil]; omega)) (by first | exact hn | simp [hn])]
  rw [f15 j (by first | omega | (simp only [List.length_append, List.length_cons, List.length_nil]; omega)) (by first | exact hn | simp [hn])]
  rw [f14 j (by first | omega | (simp only [List.length_append, List.length_cons, List.length_nil]; omega)) (by first | exact hn | simp [hn])]
  rw [f10 j (by first | omega | (simp only [List.length_append, List.length_cons, List.length_nil]; omega)) (by first | exact hn | simp [hn])]
  rw [f9 j (by first | omega | (simp only [List.length_append, List.length_cons, List.length_nil]; omega)) (by first | exact hn | simp [hn])]
  rw [f6 j (by first | omega | (simp only [List.length_append, List.length_cons, List.length_nil]; omega)) (by first | exact hn | simp [hn])]
  rw [f3 j (by first | omega | (simp only [List.length_append, List.length_cons, List.length_nil]; omega)) (by first | exact hn | simp [hn])]
  rw [List.getElem?_append_left hj]
def c_laws_heldRecorder : C := (.seq (.ops [⟨(some 2), none, (.box (.t 0))⟩, ⟨(some 4), none, (.mv (.c (.t (.int .i64 0))))⟩]) (.seq (.ops [⟨(some 5), none, (.fieldAddr 3 (.t 2))⟩, ⟨(some 6), none, (.load (some 3) (.t 5))⟩, ⟨(some 7), none, (.mv (.t 1))⟩, ⟨(some 8), none, (.call (.c (.fn (.func 95) [])) [(.t 6), (.t 7)])⟩, ⟨(some 1), none, (.mv (.t 8))⟩]) (.seq (.seq (.ops [⟨(some 9), none, (.mv (.t 1))⟩, ⟨(some 10), none, (.bin .lss (.t 9) (.c (.t (.int .i64 0))))⟩]) (.cond (.t 10) (.seq (.ops [⟨(some 4), none, (.mv (.c (.t (.int .i64 (-1)))))⟩]) .ret) .skip)) (.seq (.ops [⟨(some 11), none, (.fieldAddr 6 (.t 2))⟩, ⟨(some 12), none, (.load (some 3) (.t 11))⟩, ⟨(some 13), none, (.mv (.t 1))⟩, ⟨(some 14), none, (.call (.c (.fn (.func 95) [])) [(.t 12), (.t 13)])⟩, ⟨(some 1), none, (.mv (.t 14))⟩]) (.seq (.seq (.ops [⟨(some 15), none, (.mv (.t 1))⟩, ⟨(some 16), none, (.bin .lss (.t 15) (.c (.t (.int .i64 0))))⟩]) (.cond (.t 16) (.seq (.ops [⟨(some 4), none, (.mv (.c (.t (.int .i64 (-1)))))⟩]) .ret) .skip)) (.seq (.ops [⟨(some 17), none, (.fieldAddr 9 (.t 2))⟩, ⟨(some 18), none, (.load none (.t 17))⟩, ⟨(some 19), none, (.mv (.t 1))⟩, ⟨(some 20), none, (.call (.c (.fn (.func 96) [])) [(.t 18), (.t 19)])⟩, ⟨(some 1), none, (.mv (.t 20))⟩]) (.seq (.seq (.ops [⟨(some 21), none, (.mv (.t 1))⟩, ⟨(some 22), none, (.bin .lss (.t 21) (.c (.t (.int .i64 0))))⟩]) (.cond (.t 22) (.seq (.ops [⟨(some 4), none, (.mv (.c (.t (.int .i64 (-1)))))⟩]) .ret) .skip)) (.seq (.ops [⟨(some 23), none, (.fieldAddr 10 (.t 2))⟩, ⟨(some 24), none, (.load none (.t 23))⟩, ⟨(some 25), none, (.mv (.t 1))⟩, ⟨(some 26), none, (.call (.c (.fn (.func 56) [])) [(.t 24), (.t 25)])⟩, ⟨(some 1), none, (.mv (.t 26))⟩]) (.seq (.seq (.ops [⟨(some 27), none, (.mv (.t 1))⟩, ⟨(some 28), none, (.bin .lss (.t 27) (.c (.t (.int .i64 0))))⟩]) (.cond (.t 28) (.seq (.ops [⟨(some 4), none, (.mv (.c (.t (.int .i64 (-1)))))⟩]) .ret) .skip)) (.seq (.ops [⟨(some 29), none, (.fieldAddr 14 (.t 2))⟩, ⟨(some 30), none, (.load none (.t 29))⟩, ⟨(some 31), none, (.mv (.t 1))⟩, ⟨(some 32), none, (.call (.c (.fn (.func 97) [])) [(.t 30), (.t 31)])⟩, ⟨(some 1), none, (.mv (.t 32))⟩]) (.seq (.seq (.ops [⟨(some 33), none, (.mv (.t 1))⟩, ⟨(some 34), none, (.bin .lss (.t 33) (.c (.t (.int .i64 0))))⟩]) (.cond (.t 34) (.seq (.ops [⟨(some 4), none, (.mv (.c (.t (.int .i64 (-1)))))⟩]) .ret) .skip)) (.seq (.ops [⟨(some 35), none, (.fieldAddr 15 (.t 2))⟩, ⟨(some 36), none, (.load none (.t 35))⟩, ⟨(some 37), none, (.mv (.t 1))⟩, ⟨(some 38), none, (.call (.c (.fn (.func 27) [])) [(.t 36), (.t 37)])⟩, ⟨(some 1), none, (.mv (.t 38))⟩]) (.seq (.seq (.ops [⟨(some 39), none, (.mv (.t 1))⟩, ⟨(some 40), none, (.bin .lss (.t 39) (.c (.t (.int .i64 0))))⟩]) (.cond (.t 40) (.seq (.ops [⟨(some 4), none, (.mv (.c (.t (.int .i64 (-1)))))⟩]) .ret) .skip)) (.seq (.ops [⟨(some 41), none, (.fieldAddr 16 (.t 2))⟩, ⟨(some 42), none, (.load none (.t 41))⟩, ⟨(some 43), none, (.mv (.t 1))⟩, ⟨(some 44), none, (.call (.c (.fn (.func 98) [])) [(.t 42), (.t 43)])⟩, ⟨(some 1), none, (.mv (.t 44))⟩]) (.seq (.seq (.ops [⟨(some 45), none, (.mv (.t 1))⟩, ⟨(some 46), none, (.bin .lss (.t 45) (.c (.t (.int .i64 0))))⟩]) (.cond (.t 46) (.seq (.ops [⟨(some 4), none, (.mv (.c (.t (.int .i64 (-1)))))⟩]) .ret) .skip)) (.seq (.ops [⟨(some 47), none, (.mv (.t 1))⟩, ⟨(some 4), none, (.mv (.t 47))⟩]) .ret))))))))))))))))
theorem k_laws_heldRecorder : comp Try.prog 48 (Try.f42.body.getD .skip) = some c_laws_heldRecorder := by kernel_rfl

theorem heldRecorder : HeldLOk Try.prog markTxt 42 shRecorder := by
  rintro ts k σ hT hz hk hlt
  obtain ⟨n0, n1, n2, n3, n4, n5, n6, n7, n8, n9, n10, n11, n12, n13, n14, n15, n16, n17, rfl, b0, b1, b3, b4, b5, b6, b7, b8, b9, b10, b13, b14, b15, b16, b17⟩ := isRecorder hT
  rw [sizeRecorder] at hz
  have hm : T.mkVL markTxt k [.int .i64 n0, .int .i64 n1, .bool n2, .int .i64 n3, .int .i64 n4, n5, .int .i64 n6, .int .i64 n7, n8, n9, n10, .bool n11, .bool n12, .int .i64 n13, n14, n15, n16, .int .i64 n17] = ([.int .i64 n0, .int .i64 n1, .bool n2, .int .i64 n3, .int .i64 n4, (T.mk markTxt k n5).1, .int .i64 n6, .int .i64 n7, (T.mk markTxt (T.mk markTxt k n5).2 n8).1, (T.mk markTxt (T.mk markTxt (T.mk markTxt k n5).2 n8).2 n9).1, (T.mk markTxt (T.mk markTxt (T.mk markTxt (T.mk markTxt k n5).2 n8).2 n9).2 n10).1, .bool n11, .bool n12, .int .i64 n13, (T.mk markTxt (T.mk markTxt (T.mk markTxt (T.mk markTxt (T.mk markTxt k n5).2 n8).2 n9).2 n10).2 n14).1, (T.mk markTxt (T.mk markTxt (T.mk markTxt (T.mk markTxt (T.mk markTxt (T.mk markTxt k n5).2 n8).2 n9).2 n10).2 n14).2 n15).1, (T.mk markTxt (T.mk markTxt (T.mk markTxt (T.mk markTxt (T.mk markTxt (T.mk markTxt (T.mk markTxt k n5).2 n8).2 n9).2 n10).2 n14).2 n15).2 n16).1, .int .i64 n17], (T.mk markTxt (T.mk markTxt (T.mk markTxt (T.mk markTxt (T.mk markTxt (T.mk markTxt (T.mk markTxt k n5).2 n8).2 n9).2 n10).2 n14).2 n15).2 n16).2) := by simp only [mkVL_cons, mkVL_nil, mkV_int, mkV_bool, mkV_str, mkV_sl b5, mkV_sl b8, mkV_sl b9, mkV_sl b10, mkV_sl b14, mkV_sl b15, mkV_sl b16]
  rw [hm] at hlt ⊢
  simp only at hlt ⊢
  clear hm
  have l5 := mk_le (mt := markTxt) (k := k) (t := n5)
  have l8 := mk_le (mt := markTxt) (k := (T.mk markTxt k n5).2) (t := n8)
  have l9 := mk_le (mt := markTxt) (k := (T.mk markTxt (T.mk markTxt k n5).2 n8).2) (t := n9)
  have l10 := mk_le (mt := markTxt) (k := (T.mk markTxt (T.mk markTxt (T.mk markTxt k n5).2 n8).2 n9).2) (t := n10)
  have l14 := mk_le (mt := markTxt) (k := (T.mk markTxt (T.mk markTxt (T.mk markTxt (T.mk markTxt k n5).2 n8).2 n9).2 n10).2) (t := n14)
  have l15 := mk_le (mt := markTxt) (k := (T.mk markTxt (T.mk markTxt (T.mk markTxt (T.mk markTxt (T.mk markTxt k n5).2 n8).2 n9).2 n10).2 n14).2) (t := n15)
  have l16 := mk_le (mt := markTxt) (k := (T.mk markTxt (T.mk markTxt (T.mk markTxt (T.mk markTxt (T.mk markTxt (T.mk markTxt k n5).2 n8).2 n9).2 n10).2 n14).2 n15).2) (t := n16)
  refine acalls_of Try.func42 (by decide +kernel) (code := Try.f42.body.getD .skip) (n := 48) (c := c_laws_heldRecorder) (rs := [(.tmp 4)]) rfl rfl k_laws_heldRecorder (by kernel_rfl) (by simp) (fun hσ => ?_)
  have hm3 : T.mkVL markTxt k [.int .i64 n3, .int .i64 n4, n5] = ([.int .i64 n3, .int .i64 n4, (T.mk markTxt k n5).1], (T.mk markTxt k n5).2) := by simp only [mkVL_cons, mkVL_nil, mkV_int, mkV_bool, mkV_str, mkV_sl b5]
  have H3 := fun σ' => heldRecDisk [.int .i64 n3, .int .i64 n4, n5] k σ' (mkRecDisk b3 b4 b5) (by rw [sizeRecDisk]; omega) (by omega) (by rw [hm3]; simp only; omega)
  rw [hm3] at H3
  simp only [List.map_cons, List.map_nil] at H3
  have hm6 : T.mkVL markTxt (T.mk markTxt k n5).2 [.int .i64 n6, .int .i64 n7, n8] = ([.int .i64 n6, .int .i64 n7, (T.mk markTxt (T.mk markTxt k n5).2 n8).1], (T.mk markTxt (T.mk markTxt k n5).2 n8).2) := by simp only [mkVL_cons, mkVL_nil, mkV_int, mkV_bool, mkV_str, mkV_sl b8]
  have H6 := fun σ' => heldRecDisk [.int .i64 n6, .int .i64 n7, n8] (T.mk markTxt k n5).2 σ' (mkRecDisk b6 b7 b8) (by rw [sizeRecDisk]; omega) (by omega) (by rw [hm6]; simp only; omega)
  rw [hm6] at H6
  simp only [List.map_cons, List.map_nil] at H6
  have H9 := fun σ' => heldRecMessageS n9 (T.mk markTxt (T.mk markTxt k n5).2 n8).2 σ' b9 (by omega) (by omega) (by omega)
  have H10 := fun σ' => heldStringS n10 (T.mk markTxt (T.mk markTxt (T.mk markTxt k n5).2 n8).2 n9).2 σ' b10 (by omega) (by omega) (by omega)
  have H14 := fun σ' => heldIntS n14 (T.mk markTxt (T.mk markTxt (T.mk markTxt (T.mk markTxt k n5).2 n8).2 n9).2 n10).2 σ' b14 (by omega) (by omega) (by omega)
  have H15 := fun σ' => heldRecSlotS n15 (T.mk markTxt (T.mk markTxt (T.mk markTxt (T.mk markTxt (T.mk markTxt k n5).2 n8).2 n9).2 n10).2 n14).2 σ' b15 (by omega) (by omega) (by omega)
  have H16 := fun σ' => heldRecAckS n16 (T.mk markTxt (T.mk markTxt (T.mk markTxt (T.mk markTxt (T.mk markTxt (T.mk markTxt k n5).2 n8).2 n9).2 n10).2 n14).2 n15).2 σ' b16 (by omega) (by omega) (by omega)
  simp -implicitDefEqProofs only [c_laws_heldRecorder, nat_neg, S0, S1, S2, S3, S4, S5, S6, S7, S8, S9, S10, S11, S12, S13, S14, S15, opv, opvs, eget, env0, setD, lenStr, lenSl, isNilP, isNilS, putAt, if_true, if_false, reduceCtorEq, Nat.reduceLeDiff, Nat.reduceEqDiff, Nat.reduceSub, Nat.reduceMul, Nat.reduceAdd]
  refine call_pure (H3 _) ?_
  simp -implicitDefEqProofs only [nat_neg, S0, S1, S2, S3, S4, S5, S6, S7, S8, S9, S10, S11, S12, S13, S14, S15, opv, opvs, eget, env0, setD, lenStr, lenSl, isNilP, isNilS, putAt, if_true, if_false, reduceCtorEq, Nat.reduceLeDiff, Nat.reduceEqDiff, Nat.reduceSub, Nat.reduceMul, Nat.reduceAdd]
  refine call_pure (H6 _) ?_
  simp -implicitDefEqProofs only [nat_neg, S0, S1, S2, S3, S4, S5, S6, S7, S8, S9, S10, S11, S12, S13, S14, S15, opv, opvs, eget, env0, setD, lenStr, lenSl, isNilP, isNilS, putAt, if_true, if_false, reduceCtorEq, Nat.reduceLeDiff, Nat.reduceEqDiff, Nat.reduceSub, Nat.reduceMul, Nat.reduceAdd]
  refine call_pure (H9 _) ?_
  simp -implicitDefEqProofs only [nat_neg, S0, S1, S2, S3, S4, S5, S6, S7, S8, S9, S10, S11, S12, S13, S14, S15, opv, opvs, eget, env0, setD, lenStr, lenSl, isNilP, isNilS, putAt, if_true, if_false, reduceCtorEq, Nat.reduceLeDiff, Nat.reduceEqDiff, Nat.reduceSub, Nat.reduceMul, Nat.reduceAdd]
  refine call_pure (H10 _) ?_
  simp -implicitDefEqProofs only [nat_neg, S0, S1, S2, S3, S4, S5, S6, S7, S8, S9, S10, S11, S12, S13, S14, S15, opv, opvs, eget, env0, setD, lenStr, lenSl, isNilP, isNilS, putAt, if_true, if_false, reduceCtorEq, Nat.reduceLeDiff, Nat.reduceEqDiff, Nat.reduceSub, Nat.reduceMul, Nat.reduceAdd]
  refine call_pure (H14 _) ?_
  simp -implicitDefEqProofs only [nat_neg, S0, S1, S2, S3, S4, S5, S6, S7, S8, S9, S10, S11, S12, S13, S14, S15, opv, opvs, eget, env0, setD, lenStr, lenSl, isNilP, isNilS, putAt, if_true, if_false, reduceCtorEq, Nat.reduceLeDiff, Nat.reduceEqDiff, Nat.reduceSub, Nat.reduceMul, Nat.reduceAdd]
  refine call_pure (H15 _) ?_
  simp -implicitDefEqProofs only [nat_neg, S0, S1, S2, S3, S4, S5, S6, S7, S8, S9, S10, S11, S12, S13, S14, S15, opv, opvs, eget, env0, setD, lenStr, lenSl, isNilP, isNilS, putAt, if_true, if_false, reduceCtorEq, Nat.reduceLeDiff, Nat.reduceEqDiff, Nat.reduceSub, Nat.reduceMul, Nat.reduceAdd]
  refine call_pure (H16 _) ?_
  simp -implicitDefEqProofs only [nat_neg, S0, S1, S2, S3, S4, S5, S6, S7, S8, S9, S10, S11, S12, S13, S14, S15, opv, opvs, eget, env0, setD, lenStr, lenSl, isNilP, isNilS, putAt, if_true, if_false, reduceCtorEq, Nat.reduceLeDiff, Nat.reduceEqDiff, Nat.reduceSub, Nat.reduceMul, Nat.reduceAdd]
  exact ret_same rfl hσ rfl ⟨rfl, rfl⟩
end Go.Proofs.Ytleilaipdhmgeaa.W
