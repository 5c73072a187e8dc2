/- What is wrong with an object: the reference. Conditions: none. -/
import Derived.Test.YtcjchimenfadkaaDoorGateShapesDOk
set_option linter.unusedSimpArgs false
set_option linter.unusedVariables false
set_option linter.defProp false
open Go Go.Ab
set_option maxHeartbeats 2000000
namespace Go.Proofs.YtcjchimenfadkaaDoor.W
def chkF (f : GateField) (v : List UInt8) : Int := if (v == []) = true then (if f.Must = true then 2 else 0) else if fitsG f v = true then 0 else 3
def scanC : List (GateField × List UInt8) → Nat → Int × Int
  | [], _ => (0, 0)
  | (f, v) :: l, k => if chkF f v = 0 then scanC l (k + 1) else (chkF f v, (k : Int))
def formB (o : GateObject) : Bool := nameOk o.Name && nameOk o.Team && !(decide ((o.Holds.length : Int) > 3)) && ascW o.Holds && wi o.Version 0 1000000
def fieldsC (l : List GateShape) (o : GateObject) : Int × Int := match fieldsR l o with
  | some fs => scanC (fs.zip o.Values) 0
  | none => (0, 0)
def formC (l : List GateShape) (o : GateObject) : Bool := (fieldsR l o).isSome && shapesG l && formB o
def checkR (l : List GateShape) (o : GateObject) : Int × Int := if formC l o = true then fieldsC l o else (1, 0)
def checkV (l : List GateShape) (o : GateObject) : V := .tup [.t (.int .i64 (checkR l o).1), .t (.int .i64 (checkR l o).2)]
theorem scan_at {l : List (GateField × List UInt8)} {k : Nat} {f : GateField} {v : List UInt8} (h : l[k]? = some (f, v)) : scanC (l.drop k) k = if chkF f v = 0 then scanC (l.drop (k + 1)) (k + 1) else (chkF f v, (k : Int)) := by
  rw [drop_of h, scanC]
theorem zip_get {α β : Type} {a : List α} {b : List β} {k : Nat} {x : α} {y : β} (h1 : a[k]? = some x) (h2 : b[k]? = some y) : (a.zip b)[k]? = some (x, y) := by
  rw [List.getElem?_zip_eq_some]; exact ⟨h1, h2⟩
theorem chk_must {f : GateField} {v : List UInt8} (h : (v == []) = true) (hm : f.Must = true) : chkF f v = 2 := by rw [chkF, if_pos h, if_pos hm]
theorem chk_free {f : GateField} {v : List UInt8} (h : (v == []) = true) (hm : f.Must = false) : chkF f v = 0 := by rw [chkF, if_pos h, hm]; rfl
theorem chk_fit {f : GateField} {v : List UInt8} (h : (v == []) = false) (hm : fitsG f v = true) : chkF f v = 0 := by rw [chkF, h, if_neg (by simp), if_pos hm]
theorem chk_not {f : GateField} {v : List UInt8} (h : (v == []) = false) (hm : fitsG f v = false) : chkF f v = 3 := by rw [chkF, h, if_neg (by simp), hm]; rfl

def c_spec_l2Check : C := (.seq (.ops [⟨(some 3), none, (.box (.t 1))⟩, ⟨(some 4), none, (.mv (.c (.t (.int .i64 0))))⟩, ⟨(some 5), none, (.mv (.c (.t (.int .i64 0))))⟩]) (.seq (.ops [⟨(some 10), none, (.mv (.t 0))⟩, ⟨(some 11), none, (.load (some 7) (.t 3))⟩, ⟨(some 12), none, (.call (.c (.fn (.func 58) [])) [(.t 10), (.t 11)])⟩, ⟨(some 9), none, (.mv (.t 12))⟩, ⟨(some 13), none, (.extract (.t 9) 0)⟩, ⟨(some 14), none, (.extract (.t 9) 1)⟩, ⟨(some 6), none, (.mv (.t 13))⟩, ⟨(some 7), none, (.mv (.t 14))⟩]) (.seq (.seq (.ops [⟨(some 15), none, (.mv (.t 7))⟩, ⟨(some 16), none, (.un .not (.t 15))⟩, ⟨(some 17), none, (.mv (.t 16))⟩, ⟨(some 18), (some ⟨17, false⟩), (.fieldAddr 1 (.t 3))⟩, ⟨(some 19), (some ⟨17, false⟩), (.load none (.t 18))⟩, ⟨(some 20), (some ⟨17, false⟩), (.call (.c (.fn (.func 79) [])) [(.t 19)])⟩, ⟨(some 21), (some ⟨17, false⟩), (.un .not (.t 20))⟩, ⟨(some 22), none, (.pick (.t 17) (.c (.t (.bool true))) (.t 21))⟩, ⟨(some 23), none, (.mv (.t 22))⟩, ⟨(some 24), (some ⟨23, false⟩), (.fieldAddr 2 (.t 3))⟩, ⟨(some 25), (some ⟨23, false⟩), (.load none (.t 24))⟩, ⟨(some 26), (some ⟨23, false⟩), (.call (.c (.fn (.func 79) [])) [(.t 25)])⟩, ⟨(some 27), (some ⟨23, false⟩), (.un .not (.t 26))⟩, ⟨(some 28), none, (.pick (.t 23) (.c (.t (.bool true))) (.t 27))⟩, ⟨(some 29), none, (.mv (.t 28))⟩, ⟨(some 30), (some ⟨29, false⟩), (.fieldAddr 5 (.t 3))⟩, ⟨(some 31), (some ⟨29, false⟩), (.load none (.t 30))⟩, ⟨(some 32), (some ⟨29, false⟩), (.len false (.t 31))⟩, ⟨(some 33), (some ⟨29, false⟩), (.bin .gtr (.t 32) (.c (.t (.int .i64 3))))⟩, ⟨(some 34), none, (.pick (.t 29) (.c (.t (.bool true))) (.t 33))⟩, ⟨(some 35), none, (.mv (.t 34))⟩, ⟨(some 36), (some ⟨35, false⟩), (.fieldAddr 5 (.t 3))⟩, ⟨(some 37), (some ⟨35, false⟩), (.load none (.t 36))⟩, ⟨(some 38), (some ⟨35, false⟩), (.call (.c (.fn (.func 81) [])) [(.t 37)])⟩, ⟨(some 39), (some ⟨35, false⟩), (.un .not (.t 38))⟩, ⟨(some 40), none, (.pick (.t 35) (.c (.t (.bool true))) (.t 39))⟩, ⟨(some 41), none, (.mv (.t 40))⟩, ⟨(some 42), (some ⟨41, false⟩), (.fieldAddr 6 (.t 3))⟩, ⟨(some 43), (some ⟨41, false⟩), (.load none (.t 42))⟩, ⟨(some 44), (some ⟨41, false⟩), (.call (.c (.fn (.func 82) [])) [(.t 43), (.c (.t (.int .i64 0))), (.c (.t (.int .i64 1000000)))])⟩, ⟨(some 45), (some ⟨41, false⟩), (.un .not (.t 44))⟩, ⟨(some 46), none, (.pick (.t 41) (.c (.t (.bool true))) (.t 45))⟩]) (.cond (.t 46) (.seq (.ops [⟨(some 4), none, (.mv (.c (.t (.int .i64 1))))⟩, ⟨(some 5), none, (.mv (.c (.t (.int .i64 0))))⟩]) .ret) .skip)) (.seq (.seq (.ops [⟨(some 8), none, (.mv (.c (.t (.int .i64 0))))⟩]) (.block 0 (.loop (.seq (.seq (.ops [⟨(some 47), none, (.mv (.t 8))⟩, ⟨(some 48), none, (.mv (.t 6))⟩, ⟨(some 49), none, (.len false (.t 48))⟩, ⟨(some 50), none, (.bin .lss (.t 47) (.t 49))⟩]) (.cond (.t 50) .skip (.exit 0))) (.seq (.block 1 (.seq (.seq (.ops [⟨(some 53), none, (.fieldAddr 3 (.t 3))⟩, ⟨(some 54), none, (.load none (.t 53))⟩, ⟨(some 55), none, (.mv (.t 8))⟩, ⟨(some 56), none, (.indexAddr 1 (.t 54) (.t 55))⟩, ⟨(some 57), none, (.load none (.t 56))⟩, ⟨(some 58), none, (.bin .eql (.t 57) (.c (.t (.str []))))⟩]) (.cond (.t 58) (.seq (.seq (.ops [⟨(some 59), none, (.mv (.t 6))⟩, ⟨(some 60), none, (.mv (.t 8))⟩, ⟨(some 61), none, (.indexAddr 11 (.t 59) (.t 60))⟩, ⟨(some 62), none, (.fieldAddr 7 (.t 61))⟩, ⟨(some 63), none, (.load none (.t 62))⟩]) (.cond (.t 63) (.seq (.ops [⟨(some 64), none, (.mv (.t 8))⟩, ⟨(some 4), none, (.mv (.c (.t (.int .i64 2))))⟩, ⟨(some 5), none, (.mv (.t 64))⟩]) .ret) .skip)) (.exit 1)) .skip)) (.seq (.drawn [(.mk 0 false ⟨(some 65), none, (.mv (.t 6))⟩ []), (.mk 1 false ⟨(some 66), none, (.mv (.t 8))⟩ []), (.mk 2 false ⟨(some 67), none, (.indexAddr 11 (.t 65) (.t 66))⟩ []), (.mk 3 false ⟨(some 68), none, (.load (some 11) (.t 67))⟩ []), (.mk 4 false ⟨(some 69), none, (.fieldAddr 3 (.t 3))⟩ []), (.mk 5 false ⟨(some 70), none, (.load none (.t 69))⟩ []), (.mk 6 false ⟨(some 71), none, (.mv (.t 8))⟩ []), (.mk 7 false ⟨(some 72), none, (.indexAddr 1 (.t 70) (.t 71))⟩ []), (.mk 8 false ⟨(some 73), none, (.load none (.t 72))⟩ []), (.mk 9 false ⟨(some 74), none, (.call (.c (.fn (.func 83) [])) [(.t 68), (.t 73)])⟩ []), (.mk 10 false ⟨(some 75), none, (.un .not (.t 74))⟩ [])]) (.cond (.t 75) (.seq (.ops [⟨(some 76), none, (.mv (.t 8))⟩, ⟨(some 4), none, (.mv (.c (.t (.int .i64 3))))⟩, ⟨(some 5), none, (.mv (.t 76))⟩]) .ret) .skip)))) (.ops [⟨(some 51), none, (.mv (.t 8))⟩, ⟨(some 52), none, (.bin .add (.t 51) (.c (.t (.int .i64 1))))⟩, ⟨(some 8), none, (.mv (.t 52))⟩])))))) (.seq (.ops [⟨(some 4), none, (.mv (.c (.t (.int .i64 0))))⟩, ⟨(some 5), none, (.mv (.c (.t (.int .i64 0))))⟩]) .ret)))))
theorem k_spec_l2Check : comp Tryd.prog 77 (Tryd.f50.body.getD .skip) = some c_spec_l2Check := by kernel_rfl

theorem spec_l2Check (l : List GateShape) (hl : GateShape.OkS l) (o : GateObject) (ho : o.Ok) (hs : shapesG l = true)  (σ : Store) : ACalls Tryd.prog 50 [.t (tGateShapeS l), .agg (o.vs)] σ fun rr σ' => rr = checkV l o ∧ σ' = σ := by
  refine acalls_of Tryd.func50 (by decide +kernel) (code := Tryd.f50.body.getD .skip) (n := 77) (c := c_spec_l2Check) (rs := [(.tmp 4), (.tmp 5)]) rfl rfl k_spec_l2Check (by kernel_rfl) (by simp) (fun hσ => ?_)
  have hh : True := trivial
  have fin : ∀ {u : List V} {τ : Store}, mkRes u = checkV l o → (mkRes u).lt σ.length = true → retV σ.length (fun rr σ' => rr = checkV l o ∧ σ' = σ) (σ ++ τ) (some u) := fun h h2 => ret_same rfl hσ h2 ⟨h, rfl⟩
  have fin0 : ∀ {u : List V}, mkRes u = checkV l o → retV σ.length (fun rr σ' => rr = checkV l o ∧ σ' = σ) σ (some u) := fun h => ret_same0 rfl ⟨h, rfl⟩
  have y1 := ho.Values
  have y2 := ho.Holds
  simp -implicitDefEqProofs only [c_spec_l2Check, GateObject.vs, S0, S1, S2, S3, S4, S5, S6, S7, S8, S9, S10, S11, S12, S13, S14, S15, S16, S17, opv, opvs, eget, env0, setD, lenStr, lenSl, isNilP, isNilS, putAt, if_true, if_false, reduceCtorEq, Nat.reduceLeDiff, Nat.reduceEqDiff, Nat.reduceSub, Nat.reduceMul, Nat.reduceAdd]
  have c1 := spec_l2Fields l hl.1 o
  simp only [GateObject.vs] at c1
  refine call_pure (c1 _) ?_
  rcases hf : fieldsR l o with _ | fs
  · have hn : checkV l o = .tup [.t (.int .i64 1), .t (.int .i64 0)] := by rw [checkV, checkR, formC, hf]; rfl
    simp -implicitDefEqProofs only [hf, fldV, Option.isSome_none, Bool.not_false, cond_t, cond_f, S0, S1, S2, S3, S4, S5, S6, S7, S8, S9, S10, S11, S12, S13, S14, S15, S16, S17, opv, opvs, eget, env0, setD, lenStr, lenSl, isNilP, isNilS, putAt, if_true, if_false, reduceCtorEq, Nat.reduceLeDiff, Nat.reduceEqDiff, Nat.reduceSub, Nat.reduceMul, Nat.reduceAdd]
    first | (with_reducible refine fin0 ?_) | ((with_reducible refine fin ?_ ?_); rotate_left; exact rfl)
    rw [hn]; rfl
  obtain ⟨hfo, hfl⟩ := fields_ok hf hl
  have hn1 : formB o = false → mkRes [.t (.int .i64 1), .t (.int .i64 0)] = checkV l o := fun h => by rw [checkV, checkR, formC, hf, hs, h]; rfl
  have hok : formB o = true → checkR l o = scanC (fs.zip o.Values) 0 := fun h => by rw [checkR, formC, hf, hs, h]; simp only [Option.isSome_some, Bool.and_self, if_true, fieldsC, hf]
  simp -implicitDefEqProofs only [hf, fldV, Option.isSome_some, Bool.not_true, cond_t, cond_f, S0, S1, S2, S3, S4, S5, S6, S7, S8, S9, S10, S11, S12, S13, S14, S15, S16, S17, opv, opvs, eget, env0, setD, lenStr, lenSl, isNilP, isNilS, putAt, if_true, if_false, reduceCtorEq, Nat.reduceLeDiff, Nat.reduceEqDiff, Nat.reduceSub, Nat.reduceMul, Nat.reduceAdd]
  repeat' (first
    | ((with_reducible refine cond_known (fun h => ?_) (fun h => ?_)) <;> (replace hh := And.intro h hh; clear h; simp -implicitDefEqProofs only [hh, cond_t, cond_f, List.length_map, S0, S1, S2, S3, S4, S5, S6, S7, S8, S9, S10, S11, S12, S13, S14, S15, S16, S17, opv, opvs, eget, env0, setD, lenStr, lenSl, isNilP, isNilS, putAt, if_true, if_false, reduceCtorEq, Nat.reduceLeDiff, Nat.reduceEqDiff, Nat.reduceSub, Nat.reduceMul, Nat.reduceAdd]))
    | ((with_reducible refine call_pure (spec_l1NameOk o.Name ho.Name _) ?_); simp -implicitDefEqProofs only [hh, cond_t, cond_f, List.length_map, S0, S1, S2, S3, S4, S5, S6, S7, S8, S9, S10, S11, S12, S13, S14, S15, S16, S17, opv, opvs, eget, env0, setD, lenStr, lenSl, isNilP, isNilS, putAt, if_true, if_false, reduceCtorEq, Nat.reduceLeDiff, Nat.reduceEqDiff, Nat.reduceSub, Nat.reduceMul, Nat.reduceAdd])
    | ((with_reducible refine call_pure (spec_l1NameOk o.Team ho.Team _) ?_); simp -implicitDefEqProofs only [hh, cond_t, cond_f, List.length_map, S0, S1, S2, S3, S4, S5, S6, S7, S8, S9, S10, S11, S12, S13, S14, S15, S16, S17, opv, opvs, eget, env0, setD, lenStr, lenSl, isNilP, isNilS, putAt, if_true, if_false, reduceCtorEq, Nat.reduceLeDiff, Nat.reduceEqDiff, Nat.reduceSub, Nat.reduceMul, Nat.reduceAdd])
    | ((with_reducible refine call_pure (spec_l1Ascending o.Holds ho.Holds _) ?_); simp -implicitDefEqProofs only [hh, cond_t, cond_f, List.length_map, S0, S1, S2, S3, S4, S5, S6, S7, S8, S9, S10, S11, S12, S13, S14, S15, S16, S17, opv, opvs, eget, env0, setD, lenStr, lenSl, isNilP, isNilS, putAt, if_true, if_false, reduceCtorEq, Nat.reduceLeDiff, Nat.reduceEqDiff, Nat.reduceSub, Nat.reduceMul, Nat.reduceAdd])
    | ((with_reducible refine call_pure (spec_l1In o.Version 0 1000000 _) ?_); simp -implicitDefEqProofs only [hh, cond_t, cond_f, List.length_map, S0, S1, S2, S3, S4, S5, S6, S7, S8, S9, S10, S11, S12, S13, S14, S15, S16, S17, opv, opvs, eget, env0, setD, lenStr, lenSl, isNilP, isNilS, putAt, if_true, if_false, reduceCtorEq, Nat.reduceLeDiff, Nat.reduceEqDiff, Nat.reduceSub, Nat.reduceMul, Nat.reduceAdd])
    | ((with_reducible refine fin ?_ ?_); rotate_left; exact rfl; (try simp only [Known] at hh); exact hn1 (by grind [formB])))
  have hfo2 : formB o = true := by (try simp only [Known] at hh); grind [formB]
  have hc := hok hfo2
  clear hh
  have hh : True := trivial
  have y3 := hfo.1
  obtain ⟨z, hz⟩ : ∃ z, z = fs.zip o.Values := ⟨_, rfl⟩
  rw [← hz] at hc
  have hzl : z.length = fs.length := by rw [hz, List.length_zip]; omega
  refine loop_p [8, 3, 6] [3, 6] (fun k : Nat => [(8, .t (.int .i64 (k : Nat)))]) (fun k => k ≤ fs.length ∧ scanC (z.drop k) k = scanC z 0) (fun k => fs.length - k) 0 (by simp) ⟨Nat.zero_le _, rfl⟩ rfl ?_
  rintro k ⟨hk, hsc⟩
  simp -implicitDefEqProofs only [keep, List.length_map, tGateFieldS, S0, S1, S2, S3, S4, S5, S6, S7, S8, S9, S10, S11, S12, S13, S14, S15, S16, S17, opv, opvs, eget, env0, setD, lenStr, lenSl, isNilP, isNilS, putAt, if_true, if_false, reduceCtorEq, Nat.reduceLeDiff, Nat.reduceEqDiff, Nat.reduceSub, Nat.reduceMul, Nat.reduceAdd]
  refine cond_split (fun h1 => ?_) (fun h1 => ?_)
  · obtain ⟨x, hx, hlt⟩ := at_of h1
    obtain ⟨v, hv⟩ : ∃ v, o.Values[k]? = some v := ⟨o.Values[k], by simp⟩
    have hxo := hfo.2 x (mem_at hx)
    have hvo := y1.2 v (mem_at hv)
    have hzk : z[k]? = some (x, v) := by rw [hz]; exact zip_get hx hv
    have hst := scan_at hzk
    rw [hsc] at hst
    have more := i64_succ (show k < 4611686018427387904 by omega)
    have done : ∀ c : Int, c ≠ 0 → chkF x v = c → mkRes [.t (.int .i64 c), .t (.int .i64 (k : Nat))] = checkV l o := fun c h0 h => by
      rw [h, if_neg h0] at hst
      rw [checkV, hc, hst]; rfl
    have on : chkF x v = 0 → scanC (z.drop (k + 1)) (k + 1) = scanC z 0 := fun h => by rw [h, if_pos rfl] at hst; exact hst.symm
    simp -implicitDefEqProofs only [hx, hv, GateField.ts, GateField.vs, tStr, more, nat_nn, Nat.zero_le, List.getElem?_map, Option.map_some, List.length_map, S0, S1, S2, S3, S4, S5, S6, S7, S8, S9, S10, S11, S12, S13, S14, S15, S16, S17, opv, opvs, eget, env0, setD, lenStr, lenSl, isNilP, isNilS, putAt, if_true, if_false, reduceCtorEq, Nat.reduceLeDiff, Nat.reduceEqDiff, Nat.reduceSub, Nat.reduceMul, Nat.reduceAdd]
    refine cond_split (fun h2 => ?_) (fun h2 => ?_)
    · simp -implicitDefEqProofs only [hx, hv, GateField.ts, GateField.vs, tStr, more, nat_nn, Nat.zero_le, List.getElem?_map, Option.map_some, List.length_map, S0, S1, S2, S3, S4, S5, S6, S7, S8, S9, S10, S11, S12, S13, S14, S15, S16, S17, opv, opvs, eget, env0, setD, lenStr, lenSl, isNilP, isNilS, putAt, if_true, if_false, reduceCtorEq, Nat.reduceLeDiff, Nat.reduceEqDiff, Nat.reduceSub, Nat.reduceMul, Nat.reduceAdd]
      refine cond_split (fun h3 => ?_) (fun h3 => ?_)
      · simp -implicitDefEqProofs only [hx, hv, GateField.ts, GateField.vs, tStr, more, nat_nn, Nat.zero_le, List.getElem?_map, Option.map_some, List.length_map, S0, S1, S2, S3, S4, S5, S6, S7, S8, S9, S10, S11, S12, S13, S14, S15, S16, S17, opv, opvs, eget, env0, setD, lenStr, lenSl, isNilP, isNilS, putAt, if_true, if_false, reduceCtorEq, Nat.reduceLeDiff, Nat.reduceEqDiff, Nat.reduceSub, Nat.reduceMul, Nat.reduceAdd]
        (with_reducible refine fin ?_ ?_); rotate_left; exact rfl
        exact done 2 (by omega) (chk_must h2 h3)
      · simp -implicitDefEqProofs only [hx, hv, GateField.ts, GateField.vs, tStr, more, nat_nn, Nat.zero_le, List.getElem?_map, Option.map_some, List.length_map, S0, S1, S2, S3, S4, S5, S6, S7, S8, S9, S10, S11, S12, S13, S14, S15, S16, S17, opv, opvs, eget, env0, setD, lenStr, lenSl, isNilP, isNilS, putAt, if_true, if_false, reduceCtorEq, Nat.reduceLeDiff, Nat.reduceEqDiff, Nat.reduceSub, Nat.reduceMul, Nat.reduceAdd]
        first | exact lk_p0 (k + 1) (by simp) (by simp) (by omega) ⟨by omega, on (chk_free h2 h3)⟩ rfl | exact lk_p (k + 1) (by simp) (by simp) hσ rfl (by omega) ⟨by omega, on (chk_free h2 h3)⟩ (by simp [ltE, keep, eget, V.lt]) rfl | exact lk_pm (k + 1) (Nat.le_refl _) (by simp) hσ rfl rfl (by omega) ⟨by omega, on (chk_free h2 h3)⟩ (by simp [ltE, keep, eget, V.lt]) rfl
    · simp -implicitDefEqProofs only [hx, hv, GateField.ts, GateField.vs, tStr, more, nat_nn, Nat.zero_le, List.getElem?_map, Option.map_some, List.length_map, S0, S1, S2, S3, S4, S5, S6, S7, S8, S9, S10, S11, S12, S13, S14, S15, S16, S17, opv, opvs, eget, env0, setD, lenStr, lenSl, isNilP, isNilS, putAt, if_true, if_false, reduceCtorEq, Nat.reduceLeDiff, Nat.reduceEqDiff, Nat.reduceSub, Nat.reduceMul, Nat.reduceAdd]
      have hgf := spec_GateFits x hxo v hvo
      simp only [GateField.vs] at hgf
      refine call_pure (hgf _) ?_
      simp -implicitDefEqProofs only [hx, hv, GateField.ts, GateField.vs, tStr, more, nat_nn, Nat.zero_le, List.getElem?_map, Option.map_some, List.length_map, S0, S1, S2, S3, S4, S5, S6, S7, S8, S9, S10, S11, S12, S13, S14, S15, S16, S17, opv, opvs, eget, env0, setD, lenStr, lenSl, isNilP, isNilS, putAt, if_true, if_false, reduceCtorEq, Nat.reduceLeDiff, Nat.reduceEqDiff, Nat.reduceSub, Nat.reduceMul, Nat.reduceAdd]
      refine cond_split (fun h3 => ?_) (fun h3 => ?_)
      · simp -implicitDefEqProofs only [hx, hv, GateField.ts, GateField.vs, tStr, more, nat_nn, Nat.zero_le, List.getElem?_map, Option.map_some, List.length_map, S0, S1, S2, S3, S4, S5, S6, S7, S8, S9, S10, S11, S12, S13, S14, S15, S16, S17, opv, opvs, eget, env0, setD, lenStr, lenSl, isNilP, isNilS, putAt, if_true, if_false, reduceCtorEq, Nat.reduceLeDiff, Nat.reduceEqDiff, Nat.reduceSub, Nat.reduceMul, Nat.reduceAdd]
        (with_reducible refine fin ?_ ?_); rotate_left; exact rfl
        exact done 3 (by omega) (chk_not h2 (by simpa using h3))
      · simp -implicitDefEqProofs only [hx, hv, GateField.ts, GateField.vs, tStr, more, nat_nn, Nat.zero_le, List.getElem?_map, Option.map_some, List.length_map, S0, S1, S2, S3, S4, S5, S6, S7, S8, S9, S10, S11, S12, S13, S14, S15, S16, S17, opv, opvs, eget, env0, setD, lenStr, lenSl, isNilP, isNilS, putAt, if_true, if_false, reduceCtorEq, Nat.reduceLeDiff, Nat.reduceEqDiff, Nat.reduceSub, Nat.reduceMul, Nat.reduceAdd]
        first | exact lk_p0 (k + 1) (by simp) (by simp) (by omega) ⟨by omega, on (chk_fit h2 (by simpa using h3))⟩ rfl | exact lk_p (k + 1) (by simp) (by simp) hσ rfl (by omega) ⟨by omega, on (chk_fit h2 (by simpa using h3))⟩ (by simp [ltE, keep, eget, V.lt]) rfl | exact lk_pm (k + 1) (Nat.le_refl _) (by simp) hσ rfl rfl (by omega) ⟨by omega, on (chk_fit h2 (by simpa using h3))⟩ (by simp [ltE, keep, eget, V.lt]) rfl
  · have hkk := end_of h1 hk
    simp -implicitDefEqProofs only [S0, S1, S2, S3, S4, S5, S6, S7, S8, S9, S10, S11, S12, S13, S14, S15, S16, S17, opv, opvs, eget, env0, setD, lenStr, lenSl, isNilP, isNilS, putAt, if_true, if_false, reduceCtorEq, Nat.reduceLeDiff, Nat.reduceEqDiff, Nat.reduceSub, Nat.reduceMul, Nat.reduceAdd]
    (with_reducible refine fin ?_ ?_); rotate_left; exact rfl
    rw [hkk, ← hzl, List.drop_length] at hsc
    rw [checkV, hc, ← hsc]; rfl

def c_spec_GateCheck : C := (.seq (.ops [⟨(some 3), none, (.box (.t 1))⟩, ⟨(some 4), none, (.mv (.c (.t (.int .i64 0))))⟩, ⟨(some 5), none, (.mv (.c (.t (.int .i64 0))))⟩]) (.seq (.seq (.ops [⟨(some 6), none, (.mv (.t 0))⟩, ⟨(some 7), none, (.call (.c (.fn (.func 49) [])) [(.t 6)])⟩, ⟨(some 8), none, (.un .not (.t 7))⟩]) (.cond (.t 8) (.seq (.ops [⟨(some 4), none, (.mv (.c (.t (.int .i64 1))))⟩, ⟨(some 5), none, (.mv (.c (.t (.int .i64 0))))⟩]) .ret) .skip)) (.seq (.ops [⟨(some 9), none, (.mv (.t 0))⟩, ⟨(some 10), none, (.load (some 7) (.t 3))⟩, ⟨(some 11), none, (.call (.c (.fn (.func 50) [])) [(.t 9), (.t 10)])⟩, ⟨(some 12), none, (.extract (.t 11) 0)⟩, ⟨(some 13), none, (.extract (.t 11) 1)⟩, ⟨(some 4), none, (.mv (.t 12))⟩, ⟨(some 5), none, (.mv (.t 13))⟩]) .ret)))
theorem k_spec_GateCheck : comp Tryd.prog 14 (Tryd.f21.body.getD .skip) = some c_spec_GateCheck := by kernel_rfl

theorem spec_GateCheck (l : List GateShape) (hl : GateShape.OkS l) (o : GateObject) (ho : o.Ok)  (σ : Store) : ACalls Tryd.prog 21 [.t (tGateShapeS l), .agg (o.vs)] σ fun rr σ' => rr = checkV l o ∧ σ' = σ := by
  refine acalls_of Tryd.func21 (by decide +kernel) (code := Tryd.f21.body.getD .skip) (n := 14) (c := c_spec_GateCheck) (rs := [(.tmp 4), (.tmp 5)]) rfl rfl k_spec_GateCheck (by kernel_rfl) (by simp) (fun hσ => ?_)
  have hh : True := trivial
  have fin : ∀ {u : List V} {τ : Store}, mkRes u = checkV l o → (mkRes u).lt σ.length = true → retV σ.length (fun rr σ' => rr = checkV l o ∧ σ' = σ) (σ ++ τ) (some u) := fun h h2 => ret_same rfl hσ h2 ⟨h, rfl⟩
  have fin0 : ∀ {u : List V}, mkRes u = checkV l o → retV σ.length (fun rr σ' => rr = checkV l o ∧ σ' = σ) σ (some u) := fun h => ret_same0 rfl ⟨h, rfl⟩
  simp -implicitDefEqProofs only [c_spec_GateCheck, GateObject.vs, S0, S1, S2, S3, S4, S5, S6, S7, S8, S9, S10, S11, S12, S13, S14, S15, S16, S17, opv, opvs, eget, env0, setD, lenStr, lenSl, isNilP, isNilS, putAt, if_true, if_false, reduceCtorEq, Nat.reduceLeDiff, Nat.reduceEqDiff, Nat.reduceSub, Nat.reduceMul, Nat.reduceAdd]
  refine call_pure (spec_GateShapesOk l hl _) ?_
  rcases hs : shapesG l with _ | _
  · have hn : checkV l o = .tup [.t (.int .i64 1), .t (.int .i64 0)] := by rw [checkV, checkR, formC, hs]; simp
    simp -implicitDefEqProofs only [Bool.not_false, cond_t, cond_f, S0, S1, S2, S3, S4, S5, S6, S7, S8, S9, S10, S11, S12, S13, S14, S15, S16, S17, opv, opvs, eget, env0, setD, lenStr, lenSl, isNilP, isNilS, putAt, if_true, if_false, reduceCtorEq, Nat.reduceLeDiff, Nat.reduceEqDiff, Nat.reduceSub, Nat.reduceMul, Nat.reduceAdd]
    (with_reducible refine fin ?_ ?_); rotate_left; exact rfl; rw [hn]; rfl
  · simp -implicitDefEqProofs only [Bool.not_true, cond_t, cond_f, S0, S1, S2, S3, S4, S5, S6, S7, S8, S9, S10, S11, S12, S13, S14, S15, S16, S17, opv, opvs, eget, env0, setD, lenStr, lenSl, isNilP, isNilS, putAt, if_true, if_false, reduceCtorEq, Nat.reduceLeDiff, Nat.reduceEqDiff, Nat.reduceSub, Nat.reduceMul, Nat.reduceAdd]
    have c1 := spec_l2Check l hl o ho hs
    simp only [GateObject.vs] at c1
    refine call_pure (c1 _) ?_
    simp -implicitDefEqProofs only [checkV, S0, S1, S2, S3, S4, S5, S6, S7, S8, S9, S10, S11, S12, S13, S14, S15, S16, S17, opv, opvs, eget, env0, setD, lenStr, lenSl, isNilP, isNilS, putAt, if_true, if_false, reduceCtorEq, Nat.reduceLeDiff, Nat.reduceEqDiff, Nat.reduceSub, Nat.reduceMul, Nat.reduceAdd]
    exact ret_same rfl hσ rfl ⟨rfl, rfl⟩

end Go.Proofs.YtcjchimenfadkaaDoor.W
