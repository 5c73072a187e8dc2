/- FnExactRecBook: what the law's code does: it returns true. Conditions: none. -/
import Derived.Test.YtleilaipdhmgeaaRecBook
import Derived.Test.YtleilaipdhmgeaaMarkRec2
import Derived.Test.YtleilaipdhmgeaaAbX
set_option linter.unusedSimpArgs false
set_option linter.unusedVariables false
set_option linter.defProp false
open Go Go.Ab
set_option maxHeartbeats 4000000
namespace Go.Proofs.Ytleilaipdhmgeaa.LRecBook
open Go.Proofs.Ytleilaipdhmgeaa.W
def c_laws_FnExactRecBook : C := (.seq (.ops [⟨(some 1), none, (.box (.t 0))⟩, ⟨(some 2), none, (.mv (.c (.t (.bool false))))⟩]) (.seq (.ops [⟨(some 3), none, (.mv (.c (.t (.int .i64 1048576))))⟩]) (.seq (.ops [⟨(some 11), none, (.load (some 18) (.t 1))⟩, ⟨(some 12), none, (.mv (.t 3))⟩, ⟨(some 13), none, (.call (.c (.fn (.func 43) [])) [(.t 11), (.t 12)])⟩, ⟨(some 3), none, (.mv (.t 13))⟩]) (.seq (.seq (.ops [⟨(some 14), none, (.mv (.t 3))⟩, ⟨(some 15), none, (.bin .lss (.t 14) (.c (.t (.int .i64 0))))⟩]) (.cond (.t 15) (.seq (.ops [⟨(some 2), none, (.mv (.c (.t (.bool true))))⟩]) .ret) .skip)) (.seq (.ops [⟨(some 16), none, (.load (some 18) (.t 1))⟩, ⟨(some 17), none, (.call (.c (.fn (.func 45) [])) [(.t 16)])⟩, ⟨(some 18), none, (.call (.c (.fn (.func 52) [])) [(.t 17)])⟩, ⟨(some 4), none, (.mv (.t 18))⟩]) (.seq (.ops [⟨(some 19), none, (.load (some 18) (.t 1))⟩, ⟨(some 20), none, (.call (.c (.fn (.func 45) [])) [(.t 19)])⟩, ⟨(some 5), none, (.new [(.t (.int .i64 0)), (.t (.int .i64 0)), (.t (.bool false)), (.t (.int .i64 0)), (.t (.int .i64 0)), .nils, (.t (.int .i64 0)), (.t (.int .i64 0)), .nils, .nils, .nils, (.t (.bool false)), (.t (.bool false)), (.t (.int .i64 0)), .nils, .nils, .nils, (.t (.int .i64 0))])⟩, ⟨none, none, (.store 18 (.t 5) (.t 20))⟩]) (.seq (.ops [⟨(some 21), none, (.load (some 18) (.t 5))⟩, ⟨(some 22), none, (.call (.c (.fn (.func 53) [])) [(.t 21)])⟩, ⟨(some 6), none, (.mv (.t 22))⟩]) (.seq (.seq (.ops [⟨(some 23), none, (.mv (.t 6))⟩, ⟨(some 24), none, (.mv (.t 4))⟩, ⟨(some 25), none, (.call (.c (.fn (.func 54) [])) [(.t 23), (.t 24)])⟩, ⟨(some 26), none, (.un .not (.t 25))⟩]) (.cond (.t 26) (.seq (.ops [⟨(some 2), none, (.mv (.c (.t (.bool false))))⟩]) .ret) .skip)) (.seq (.seq (.drawn [(.mk 0 false ⟨(some 27), none, (.load (some 18) (.t 5))⟩), (.mk 1 false ⟨(some 28), none, (.load (some 18) (.t 1))⟩), (.mk 2 true ⟨(some 29), none, (.call (.c (.fn (.func 45) [])) [(.t 28)])⟩), (.mk 3 false ⟨(some 30), none, (.call (.c (.fn (.func 40) [])) [(.t 27), (.t 29)])⟩), (.mk 4 false ⟨(some 31), none, (.un .not (.t 30))⟩)]) (.cond (.t 31) (.seq (.ops [⟨(some 2), none, (.mv (.c (.t (.bool false))))⟩]) .ret) .skip)) (.seq (.ops [⟨(some 7), none, (.mv (.c (.t (.int .i64 1))))⟩]) (.seq (.ops [⟨(some 32), none, (.load (some 18) (.t 5))⟩, ⟨(some 33), none, (.mv (.t 7))⟩, ⟨(some 34), none, (.call (.c (.fn (.func 41) [])) [(.t 32), (.t 33)])⟩, ⟨(some 7), none, (.mv (.t 34))⟩]) (.seq (.seq (.ops [⟨(some 35), none, (.mv (.t 7))⟩, ⟨(some 36), none, (.bin .lss (.t 35) (.c (.t (.int .i64 0))))⟩, ⟨(some 37), none, (.mv (.t 36))⟩, ⟨(some 38), (some ⟨37, false⟩), (.mv (.t 6))⟩, ⟨(some 39), (some ⟨37, false⟩), (.mv (.t 4))⟩, ⟨(some 40), (some ⟨37, false⟩), (.call (.c (.fn (.func 54) [])) [(.t 38), (.t 39)])⟩, ⟨(some 41), (some ⟨37, false⟩), (.un .not (.t 40))⟩, ⟨(some 42), none, (.pick (.t 37) (.c (.t (.bool true))) (.t 41))⟩]) (.cond (.t 42) (.seq (.ops [⟨(some 2), none, (.mv (.c (.t (.bool false))))⟩]) .ret) .skip)) (.seq (.ops [⟨(some 8), none, (.mv (.c (.t (.int .i64 1))))⟩]) (.seq (.ops [⟨(some 43), none, (.mv (.t 6))⟩, ⟨(some 44), none, (.mv (.t 8))⟩, ⟨(some 45), none, (.call (.c (.fn (.func 55) [])) [(.t 43), (.t 44)])⟩, ⟨(some 8), none, (.mv (.t 45))⟩]) (.seq (.ops [⟨(some 9), none, (.mv (.c (.t (.int .i64 1))))⟩]) (.seq (.ops [⟨(some 46), none, (.mv (.t 6))⟩, ⟨(some 47), none, (.mv (.t 9))⟩, ⟨(some 48), none, (.call (.c (.fn (.func 56) [])) [(.t 46), (.t 47)])⟩, ⟨(some 9), none, (.mv (.t 48))⟩]) (.seq (.seq (.ops [⟨(some 49), none, (.mv (.t 9))⟩, ⟨(some 50), none, (.bin .lss (.t 49) (.c (.t (.int .i64 0))))⟩]) (.cond (.t 50) (.seq (.ops [⟨(some 2), none, (.mv (.c (.t (.bool false))))⟩]) .ret) .skip)) (.seq (.seq (.ops [⟨(some 51), none, (.mv (.t 9))⟩, ⟨(some 52), none, (.mv (.t 8))⟩, ⟨(some 53), none, (.bin .neq (.t 51) (.t 52))⟩]) (.cond (.t 53) (.seq (.ops [⟨(some 2), none, (.mv (.c (.t (.bool false))))⟩]) .ret) .skip)) (.seq (.ops [⟨(some 54), none, (.load (some 18) (.t 1))⟩, ⟨(some 55), none, (.call (.c (.fn (.func 45) [])) [(.t 54)])⟩, ⟨(some 56), none, (.call (.c (.fn (.func 53) [])) [(.t 55)])⟩, ⟨(some 10), none, (.mv (.t 56))⟩]) (.seq (.seq (.ops [⟨(some 57), none, (.mv (.t 10))⟩, ⟨(some 58), none, (.mv (.t 4))⟩, ⟨(some 59), none, (.call (.c (.fn (.func 54) [])) [(.t 57), (.t 58)])⟩, ⟨(some 60), none, (.un .not (.t 59))⟩]) (.cond (.t 60) (.seq (.ops [⟨(some 2), none, (.mv (.c (.t (.bool false))))⟩]) .ret) .skip)) (.seq (.ops [⟨(some 9), none, (.mv (.c (.t (.int .i64 1))))⟩]) (.seq (.ops [⟨(some 61), none, (.mv (.t 6))⟩, ⟨(some 62), none, (.mv (.t 9))⟩, ⟨(some 63), none, (.call (.c (.fn (.func 56) [])) [(.t 61), (.t 62)])⟩, ⟨(some 9), none, (.mv (.t 63))⟩]) (.seq (.seq (.ops [⟨(some 64), none, (.mv (.t 9))⟩, ⟨(some 65), none, (.bin .lss (.t 64) (.c (.t (.int .i64 0))))⟩]) (.cond (.t 65) (.seq (.ops [⟨(some 2), none, (.mv (.c (.t (.bool false))))⟩]) .ret) .skip)) (.seq (.seq (.ops [⟨(some 66), none, (.mv (.t 9))⟩, ⟨(some 67), none, (.mv (.t 8))⟩, ⟨(some 68), none, (.bin .neq (.t 66) (.t 67))⟩]) (.cond (.t 68) (.seq (.ops [⟨(some 2), none, (.mv (.c (.t (.bool false))))⟩]) .ret) .skip)) (.seq (.ops [⟨(some 2), none, (.mv (.c (.t (.bool true))))⟩]) .ret)))))))))))))))))))))))))
theorem k_laws_FnExactRecBook : comp Try.prog 69 (Try.f10.body.getD .skip) = some c_laws_FnExactRecBook := by kernel_rfl

theorem list18y {l : List V} (h : l.length = 18) : ∃ u0 u1 u2 u3 u4 u5 u6 u7 u8 u9 u10 u11 u12 u13 u14 u15 u16 u17, l = [u0, u1, u2, u3, u4, u5, u6, u7, u8, u9, u10, u11, u12, u13, u14, u15, u16, u17] := by
  match l, h with
  | [u0, u1, u2, u3, u4, u5, u6, u7, u8, u9, u10, u11, u12, u13, u14, u15, u16, u17], _ => exact ⟨u0, u1, u2, u3, u4, u5, u6, u7, u8, u9, u10, u11, u12, u13, u14, u15, u16, u17, rfl⟩
theorem is_strs (l : List (List UInt8)) (h : l.length ≤ maxLen) (hs : ∀ s ∈ l, s.length ≤ maxLen) : T.is (.sl 1 [.str]) (tStrs l) := by
  simp only [T.is]
  refine ⟨_, rfl, by simpa using h, fun r hr => ?_⟩
  obtain ⟨s, hs', rfl⟩ := List.mem_map.1 hr
  simp only [T.isL]
  exact ⟨_, _, rfl, by simp only [T.is]; exact ⟨s, rfl, hs s hs'⟩, rfl⟩
theorem size_strs (m : Nat) : ∀ (l : List (List UInt8)), (∀ s ∈ l, s.length ≤ m) → T.sizeR (l.map tStr) ≤ l.length * m
  | [], _ => by simp [sizeR_nil]
  | s :: l, h => by
    rw [List.map_cons, sizeR_cons, tStr, sizeL_cons, sizeL_nil, size_str, List.length_cons, Nat.add_mul]
    have h1 := h s (by simp)
    have h2 := size_strs m l fun s hs => h s (by simp [hs])
    omega
theorem book_small (r : Recorder) : (bookR r).length ≤ 120 ∧ ∀ s ∈ bookR r, s.length ≤ 160 := by
  unfold bookR
  split
  · rename_i hv
    have h1 : slotsOk r.Disk.Slots = true := by grind [validR, diskOk]
    have h2 : r.Disk.Slots.length ≤ 120 := by grind [slotsOk]
    have h3 : ∀ x ∈ r.Disk.Slots, x.Text.length ≤ 160 := by
      intro x hx
      have : r.Disk.Slots.all slotOk = true := by grind [slotsOk]
      have := List.all_eq_true.1 this x hx
      grind [slotOk]
    refine ⟨by simp [textsOf]; omega, fun s hs => ?_⟩
    simp only [textsOf, List.mem_map] at hs
    obtain ⟨x, hx, rfl⟩ := hs
    exact h3 x (List.mem_of_mem_take hx)
  · simp
theorem lawRecBook (a0 : Recorder) (h0 : T.isL shRecorder a0.ts) (q0 : T.sizeL a0.ts ≤ 1048576 → a0.Ok) (σ : Store) : ACalls Try.prog 10 [.agg a0.vs] σ fun r _ => r = .t (.bool true) := by
  refine acalls_of Try.func10 (by decide +kernel) (code := Try.f10.body.getD .skip) (n := 69) (c := c_laws_FnExactRecBook) (rs := [(.tmp 2)]) rfl rfl k_laws_FnExactRecBook (by kernel_rfl) (by simp) (fun hσ => ?_)
  simp -implicitDefEqProofs only [c_laws_FnExactRecBook, Recorder.vs, S0, S1, S2, S3, S4, S5, S6, S7, S8, S9, S10, S11, S12, opv, opvs, eget, env0, setD, lenStr, lenSl, isNilP, isNilS, putAt, if_true, if_false, reduceCtorEq, Nat.reduceLeDiff, Nat.reduceEqDiff, Nat.reduceSub, Nat.reduceMul, Nat.reduceAdd]
  refine call_by (by rw [List.append_nil]; exact szRecorder a0.ts 1048576 _ h0 (by omega) (by omega)) ?_
  rintro r σ' ⟨⟨m1, rfl, hm1, hs1⟩, rfl⟩
  simp -implicitDefEqProofs only [S0, S1, S2, S3, S4, S5, S6, S7, S8, S9, S10, S11, S12, opv, opvs, eget, env0, setD, lenStr, lenSl, isNilP, isNilS, putAt, if_true, if_false, reduceCtorEq, Nat.reduceLeDiff, Nat.reduceEqDiff, Nat.reduceSub, Nat.reduceMul, Nat.reduceAdd]
  refine cond_split (fun h => ?_) (fun h => ?_)
  · simp -implicitDefEqProofs only [S0, S1, S2, S3, S4, S5, S6, S7, S8, S9, S10, S11, S12, opv, opvs, eget, env0, setD, lenStr, lenSl, isNilP, isNilS, putAt, if_true, if_false, reduceCtorEq, Nat.reduceLeDiff, Nat.reduceEqDiff, Nat.reduceSub, Nat.reduceMul, Nat.reduceAdd]
    exact ret_same rfl hσ rfl rfl
  simp only [decide_eq_false_iff_not, Int.not_lt] at h
  replace hs1 := hs1 h
  have hz0 : T.sizeL a0.ts ≤ 1048576 := by omega
  have o0 := q0 hz0
  obtain ⟨bk1, bk2⟩ := book_small a0
  have hT : T.is (.sl 1 [.str]) (tStrs (bookR a0)) := is_strs _ (by simp only [maxLen]; omega) (fun s hs => by have := bk2 s hs; simp only [maxLen]; omega)
  have hzt : (tStrs (bookR a0)).size ≤ 1000000 := by
    have := size_strs 160 (bookR a0) bk2
    have h2 : (bookR a0).length * 160 ≤ 120 * 160 := Nat.mul_le_mul bk1 (Nat.le_refl _)
    rw [tStrs, size_lst, List.length_map]
    omega
  have hmt : (T.mk markTxt 1 (tStrs (bookR a0))).2 < 4611686018427387904 := by
    have := mk_ub (mt := markTxt) (t := tStrs (bookR a0)) (k := 1) (c := .sl 1 [.str]) (by decide) hT
    omega
  have hma : (T.mkVL markTxt 1 a0.ts).2 < 4611686018427387904 := by
    have := mkVL_ub (mt := markTxt) (ts := a0.ts) (k := 1) (cs := shRecorder) (by decide) h0
    have h2 : a0.ts.length = 18 := rfl
    omega
  generalize ht : tStrs (bookR a0) = t at hT hzt hmt
  have Sp := fun σ => spec_RecBook a0 o0 σ
  have Ip := fun σ => impl_RecBook a0 o0 σ
  rw [ht] at Sp Ip
  simp -implicitDefEqProofs only [S0, S1, S2, S3, S4, S5, S6, S7, S8, S9, S10, S11, S12, opv, opvs, eget, env0, setD, lenStr, lenSl, isNilP, isNilS, putAt, if_true, if_false, reduceCtorEq, Nat.reduceLeDiff, Nat.reduceEqDiff, Nat.reduceSub, Nat.reduceMul, Nat.reduceAdd]
  -- w0
  refine call_by (by rw [List.append_nil]; exact toRecorder a0.ts _ h0 (by omega)) ?_
  rintro r σ' ⟨u1, τ1, j1, rfl, rfl, p1, w1⟩
  simp -implicitDefEqProofs only [S0, S1, S2, S3, S4, S5, S6, S7, S8, S9, S10, S11, S12, opv, opvs, eget, env0, setD, lenStr, lenSl, isNilP, isNilS, putAt, if_true, if_false, reduceCtorEq, Nat.reduceLeDiff, Nat.reduceEqDiff, Nat.reduceSub, Nat.reduceMul, Nat.reduceAdd]
  refine call_by (by rw [List.append_nil]; exact acalls_to Sp ⟨_, _, rfl, sees_agg p1 rfl (by simp), rfl⟩) ?_
  rintro w σ' ⟨τ2, iw, rfl, pw, ww⟩
  have ew := pw.one
  simp -implicitDefEqProofs only [ew, S0, S1, S2, S3, S4, S5, S6, S7, S8, S9, S10, S11, S12, opv, opvs, eget, env0, setD, lenStr, lenSl, isNilP, isNilS, putAt, if_true, if_false, reduceCtorEq, Nat.reduceLeDiff, Nat.reduceEqDiff, Nat.reduceSub, Nat.reduceMul, Nat.reduceAdd]
  -- x0
  refine call_by (by rw [List.append_nil]; exact toRecorder a0.ts _ h0 (by omega)) ?_
  rintro r σ' ⟨u3, τ3, j3, rfl, rfl, p3, w3⟩
  obtain ⟨v0, v1, v2, v3, v4, v5, v6, v7, v8, v9, v10, v11, v12, v13, v14, v15, v16, v17, rfl⟩ := list18y p3.len
  have e3 := p3.ones
  simp only [List.all_cons, List.all_nil, Bool.and_eq_true, and_true] at e3
  obtain ⟨f0, f1, f2, f3, f4, f5, f6, f7, f8, f9, f10, f11, f12, f13, f14, f15, f16, f17⟩ := e3
  simp -implicitDefEqProofs only [ew, f0, f1, f2, f3, f4, f5, f6, f7, f8, f9, f10, f11, f12, f13, f14, f15, f16, f17, S0, S1, S2, S3, S4, S5, S6, S7, S8, S9, S10, S11, S12, opv, opvs, eget, env0, setD, lenStr, lenSl, isNilP, isNilS, putAt, if_true, if_false, reduceCtorEq, Nat.reduceLeDiff, Nat.reduceEqDiff, Nat.reduceSub, Nat.reduceMul, Nat.reduceAdd]
  -- g0
  refine call_by (by rw [List.append_nil]; exact acalls_to Ip ⟨_, _, rfl, sees_agg p3 rfl (by simp), rfl⟩) ?_
  rintro g σ' ⟨τ4, ig, rfl, pg, wg⟩
  have eg := pg.one
  simp -implicitDefEqProofs only [S0, S1, S2, S3, S4, S5, S6, S7, S8, S9, S10, S11, S12, opv, opvs, eget, env0, setD, lenStr, lenSl, isNilP, isNilS, putAt, if_true, if_false, reduceCtorEq, Nat.reduceLeDiff, Nat.reduceEqDiff, Nat.reduceSub, Nat.reduceMul, Nat.reduceAdd]
  refine call_bor (fun σ => eqStringS t σ hT (by omega)) rfl ⟨_, _, rfl, sees_lst pg rfl (by simp), _, _, rfl, sees_lst pw rfl (by simp), rfl⟩ ?_
  simp -implicitDefEqProofs only [S0, S1, S2, S3, S4, S5, S6, S7, S8, S9, S10, S11, S12, opv, opvs, eget, env0, setD, lenStr, lenSl, isNilP, isNilS, putAt, if_true, if_false, reduceCtorEq, Nat.reduceLeDiff, Nat.reduceEqDiff, Nat.reduceSub, Nat.reduceMul, Nat.reduceAdd]
  refine call_by (by rw [List.append_nil]; exact toRecorder a0.ts _ h0 (by omega)) ?_
  rintro r σ' ⟨u5, τ5, j5, rfl, rfl, p5, w5⟩
  simp -implicitDefEqProofs only [S0, S1, S2, S3, S4, S5, S6, S7, S8, S9, S10, S11, S12, opv, opvs, eget, env0, setD, lenStr, lenSl, isNilP, isNilS, putAt, if_true, if_false, reduceCtorEq, Nat.reduceLeDiff, Nat.reduceEqDiff, Nat.reduceSub, Nat.reduceMul, Nat.reduceAdd]
  refine call_bor (fun σ => eqRecorder a0.ts σ h0 (by omega)) rfl ⟨_, _, rfl, sees_agg p3 rfl (by simp), _, _, rfl, sees_agg p5 rfl (by simp), rfl⟩ ?_
  simp -implicitDefEqProofs only [S0, S1, S2, S3, S4, S5, S6, S7, S8, S9, S10, S11, S12, opv, opvs, eget, env0, setD, lenStr, lenSl, isNilP, isNilS, putAt, if_true, if_false, reduceCtorEq, Nat.reduceLeDiff, Nat.reduceEqDiff, Nat.reduceSub, Nat.reduceMul, Nat.reduceAdd]
  -- marks on x0
  refine call_by (by rw [List.append_nil]; exact markRecorder a0.ts [v0, v1, v2, v3, v4, v5, v6, v7, v8, v9, v10, v11, v12, v13, v14, v15, v16, v17] j3 1 _ h0 (by omega) (p3.pre (by simp)) w3.1 (by omega) hma) ?_
  rintro r s1 ⟨rfl, q3, y3, fr3⟩
  have e1 := fr3 σ.length (by simp) (fun h => by have b := w3.2 _ h; simp only [List.length_append, List.length_cons, List.length_nil] at b; omega)
  simp only [q_app_get0, List.getElem?_cons_zero] at e1
  have gw1 : Own s1 t w iw := (pw.pre (by simp)).other fr3 (fun x hx h => by have a := ww.2 x hx; have b := w3.2 x h; simp only [List.length_append, List.length_cons, List.length_nil] at a b; omega)
  have gg1 : Own s1 t g ig := (pg.pre (by simp)).other fr3 (fun x hx h => by have a := wg.2 x hx; have b := w3.2 x h; simp only [List.length_append, List.length_cons, List.length_nil] at a b; omega)
  have l1 := (List.getElem?_eq_some_iff.1 e1).1
  simp -implicitDefEqProofs only [nat_neg, S0, S1, S2, S3, S4, S5, S6, S7, S8, S9, S10, S11, S12, opv, opvs, eget, env0, setD, lenStr, lenSl, isNilP, isNilS, putAt, if_true, if_false, reduceCtorEq, Nat.reduceLeDiff, Nat.reduceEqDiff, Nat.reduceSub, Nat.reduceMul, Nat.reduceAdd]
  refine call_bor (fun σ => eqStringS t σ hT (by omega)) rfl ⟨_, _, rfl, sees_lst gg1 rfl (List.prefix_refl _), _, _, rfl, sees_lst gw1 rfl (List.prefix_refl _), rfl⟩ ?_
  simp -implicitDefEqProofs only [nat_neg, S0, S1, S2, S3, S4, S5, S6, S7, S8, S9, S10, S11, S12, opv, opvs, eget, env0, setD, lenStr, lenSl, isNilP, isNilS, putAt, if_true, if_false, reduceCtorEq, Nat.reduceLeDiff, Nat.reduceEqDiff, Nat.reduceSub, Nat.reduceMul, Nat.reduceAdd]
  -- marks on g0
  refine call_by (by rw [List.append_nil]; exact markStringS t g ig 1 _ hT (by omega) gg1 wg.1 (by omega) hmt) ?_
  rintro r s2 ⟨rfl, qg, y4, fr4⟩
  have e2 := fr4 σ.length l1 (fun h => by have b := wg.2 _ h; simp only [List.length_append, List.length_cons, List.length_nil] at b; omega)
  rw [e1] at e2
  have l2 := (List.getElem?_eq_some_iff.1 e2).1
  have gw2 : Own s2 t w iw := gw1.other fr4 (fun x hx h => by have a := ww.2 x hx; have b := wg.2 x h; simp only [List.length_append, List.length_cons, List.length_nil] at a b; omega)
  have Hp := fun σ => heldStringS t 1 σ hT (by omega) (by omega) hmt
  have g2 : ∀ τ, (s2 ++ τ)[σ.length]? = s2[σ.length]? := fun τ => List.getElem?_append_left l2
  simp -implicitDefEqProofs only [e2, g2, nat_neg, ne_self, S0, S1, S2, S3, S4, S5, S6, S7, S8, S9, S10, S11, S12, opv, opvs, eget, env0, setD, lenStr, lenSl, isNilP, isNilS, putAt, if_true, if_false, reduceCtorEq, Nat.reduceLeDiff, Nat.reduceEqDiff, Nat.reduceSub, Nat.reduceMul, Nat.reduceAdd]
  refine call_bor (y := .t (.int .i64 ((T.mk markTxt 1 t).2 : Nat))) (fun σ => Hp σ) rfl ⟨_, _, rfl, sees_lst qg rfl (List.prefix_refl _), _, _, rfl, sees_one rfl, rfl⟩ ?_
  simp -implicitDefEqProofs only [e2, g2, nat_neg, ne_self, S0, S1, S2, S3, S4, S5, S6, S7, S8, S9, S10, S11, S12, opv, opvs, eget, env0, setD, lenStr, lenSl, isNilP, isNilS, putAt, if_true, if_false, reduceCtorEq, Nat.reduceLeDiff, Nat.reduceEqDiff, Nat.reduceSub, Nat.reduceMul, Nat.reduceAdd]
  -- h0
  refine call_by (by rw [List.append_nil]; exact toRecorder a0.ts _ h0 (by omega)) ?_
  rintro r σ' ⟨u6, τ6, j6, rfl, rfl, p6, w6⟩
  simp -implicitDefEqProofs only [e2, g2, nat_neg, ne_self, S0, S1, S2, S3, S4, S5, S6, S7, S8, S9, S10, S11, S12, opv, opvs, eget, env0, setD, lenStr, lenSl, isNilP, isNilS, putAt, if_true, if_false, reduceCtorEq, Nat.reduceLeDiff, Nat.reduceEqDiff, Nat.reduceSub, Nat.reduceMul, Nat.reduceAdd]
  refine call_by (by rw [List.append_nil]; exact acalls_to Ip ⟨_, _, rfl, sees_agg p6 rfl (by simp), rfl⟩) ?_
  rintro hh σ' ⟨τ7, ih, rfl, ph, wh⟩
  simp -implicitDefEqProofs only [e2, g2, nat_neg, ne_self, S0, S1, S2, S3, S4, S5, S6, S7, S8, S9, S10, S11, S12, opv, opvs, eget, env0, setD, lenStr, lenSl, isNilP, isNilS, putAt, if_true, if_false, reduceCtorEq, Nat.reduceLeDiff, Nat.reduceEqDiff, Nat.reduceSub, Nat.reduceMul, Nat.reduceAdd]
  refine call_bor (fun σ => eqStringS t σ hT (by omega)) rfl ⟨_, _, rfl, sees_lst ph rfl (by simp), _, _, rfl, sees_lst gw2 rfl (by simp), rfl⟩ ?_
  simp -implicitDefEqProofs only [e2, g2, nat_neg, ne_self, S0, S1, S2, S3, S4, S5, S6, S7, S8, S9, S10, S11, S12, opv, opvs, eget, env0, setD, lenStr, lenSl, isNilP, isNilS, putAt, if_true, if_false, reduceCtorEq, Nat.reduceLeDiff, Nat.reduceEqDiff, Nat.reduceSub, Nat.reduceMul, Nat.reduceAdd]
  refine call_bor (y := .t (.int .i64 ((T.mk markTxt 1 t).2 : Nat))) (fun σ => Hp σ) rfl ⟨_, _, rfl, sees_lst qg rfl (by simp), _, _, rfl, sees_one rfl, rfl⟩ ?_
  simp -implicitDefEqProofs only [e2, g2, nat_neg, ne_self, S0, S1, S2, S3, S4, S5, S6, S7, S8, S9, S10, S11, S12, opv, opvs, eget, env0, setD, lenStr, lenSl, isNilP, isNilS, putAt, if_true, if_false, reduceCtorEq, Nat.reduceLeDiff, Nat.reduceEqDiff, Nat.reduceSub, Nat.reduceMul, Nat.reduceAdd]
  refine fin_keep ?_ rfl
  simp only [List.length_append]
  omega
end Go.Proofs.Ytleilaipdhmgeaa.LRecBook
