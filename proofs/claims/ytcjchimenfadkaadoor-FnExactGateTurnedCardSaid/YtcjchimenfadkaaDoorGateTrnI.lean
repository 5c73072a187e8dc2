/- Whether an object may become another: the reference. Conditions: none. -/
/- Whether an object may become another: the program. Conditions: none. -/
import Derived.Test.YtcjchimenfadkaaDoorGateChkS
import Derived.Test.YtcjchimenfadkaaDoorGateChk
set_option linter.unusedSimpArgs false
set_option linter.unusedVariables false
set_option linter.defProp false

section
open Go Go.Ab
set_option maxHeartbeats 2000000
namespace Go.Proofs.YtcjchimenfadkaaDoor.W
abbrev Fx := GateField × (List UInt8 × List UInt8)
def fixP (x : Fx) : Bool := x.1.Fixed && !(x.2.1 == []) && !(x.2.1 == x.2.2)
def scanT : List Fx → Nat → Int × Int
  | [], _ => (0, 0)
  | x :: l, k => if fixP x = true then (4, (k : Int)) else scanT l (k + 1)
def turnB (l : List GateShape) (a o : GateObject) : Bool := ((checkR l a).1 == 0) && ((checkR l o).1 == 0) && (a.Kind == o.Kind) && (a.Name == o.Name) && (a.Team == o.Team)
def turnR (l : List GateShape) (a o : GateObject) : Int × Int := if turnB l a o = true then (match fieldsR l o with
  | some fs => scanT (fs.zip (a.Values.zip o.Values)) 0
  | none => (0, 0)) else (1, 0)
def turnV (l : List GateShape) (a o : GateObject) : V := .tup [.t (.int .i64 (turnR l a o).1), .t (.int .i64 (turnR l a o).2)]
theorem turn_no {l : List GateShape} {a o : GateObject} (h : turnB l a o = false) : mkRes [.t (.int .i64 1), .t (.int .i64 0)] = turnV l a o := by
  rw [turnV, turnR, h]; rfl
theorem scanT_at {l : List Fx} {k : Nat} {x : Fx} (h : l[k]? = some x) : scanT (l.drop k) k = if fixP x = true then (4, (k : Int)) else scanT (l.drop (k + 1)) (k + 1) := by
  rw [drop_of h, scanT]
theorem check_some {l : List GateShape} {o : GateObject} (h : (checkR l o).1 = 0) : ∃ fs, fieldsR l o = some fs := by
  rw [checkR] at h
  split at h
  · rename_i hf
    simp only [formC, Bool.and_eq_true] at hf
    exact Option.isSome_iff_exists.1 hf.1.1
  · simp at h
theorem fields_same {l : List GateShape} {a o : GateObject} {fs gs : List GateField} (hk : a.Kind = o.Kind) (h1 : fieldsR l a = some fs) (h2 : fieldsR l o = some gs) : fs = gs := by
  unfold fieldsR at h1 h2
  rw [hk] at h1
  cases hs : l.find? (isK o.Kind) with
  | none => rw [hs] at h1; cases h1
  | some s =>
    rw [hs] at h1 h2
    simp only at h1 h2
    split at h1
    · split at h2
      · rw [← Option.some.inj h1, ← Option.some.inj h2]
      · cases h2
    · cases h1

def c_spec_GateTurned : C := (.seq (.ops [⟨(some 4), none, (.box (.t 1))⟩, ⟨(some 5), none, (.box (.t 2))⟩, ⟨(some 6), none, (.mv (.c (.t (.int .i64 0))))⟩, ⟨(some 7), none, (.mv (.c (.t (.int .i64 0))))⟩]) (.seq (.ops [⟨(some 16), none, (.mv (.t 0))⟩, ⟨(some 17), none, (.load (some 7) (.t 4))⟩, ⟨(some 18), none, (.call (.c (.fn (.func 21) [])) [(.t 16), (.t 17)])⟩, ⟨(some 15), none, (.mv (.t 18))⟩, ⟨(some 19), none, (.extract (.t 15) 0)⟩, ⟨(some 20), none, (.extract (.t 15) 1)⟩, ⟨(some 8), none, (.mv (.t 19))⟩, ⟨(some 9), none, (.mv (.t 20))⟩]) (.seq (.ops [⟨(some 22), none, (.mv (.t 0))⟩, ⟨(some 23), none, (.load (some 7) (.t 5))⟩, ⟨(some 24), none, (.call (.c (.fn (.func 21) [])) [(.t 22), (.t 23)])⟩, ⟨(some 21), none, (.mv (.t 24))⟩, ⟨(some 25), none, (.extract (.t 21) 0)⟩, ⟨(some 26), none, (.extract (.t 21) 1)⟩, ⟨(some 10), none, (.mv (.t 25))⟩, ⟨(some 11), none, (.mv (.t 26))⟩]) (.seq (.seq (.ops [⟨(some 27), none, (.mv (.t 8))⟩, ⟨(some 28), none, (.bin .neq (.t 27) (.c (.t (.int .i64 0))))⟩, ⟨(some 29), none, (.mv (.t 28))⟩, ⟨(some 30), (some ⟨29, false⟩), (.mv (.t 10))⟩, ⟨(some 31), (some ⟨29, false⟩), (.bin .neq (.t 30) (.c (.t (.int .i64 0))))⟩, ⟨(some 32), none, (.pick (.t 29) (.c (.t (.bool true))) (.t 31))⟩, ⟨(some 33), none, (.mv (.t 32))⟩, ⟨(some 34), (some ⟨33, false⟩), (.fieldAddr 0 (.t 4))⟩, ⟨(some 35), (some ⟨33, false⟩), (.load none (.t 34))⟩, ⟨(some 36), (some ⟨33, false⟩), (.fieldAddr 0 (.t 5))⟩, ⟨(some 37), (some ⟨33, false⟩), (.load none (.t 36))⟩, ⟨(some 38), (some ⟨33, false⟩), (.bin .neq (.t 35) (.t 37))⟩, ⟨(some 39), none, (.pick (.t 33) (.c (.t (.bool true))) (.t 38))⟩, ⟨(some 40), none, (.mv (.t 39))⟩, ⟨(some 41), (some ⟨40, false⟩), (.fieldAddr 1 (.t 4))⟩, ⟨(some 42), (some ⟨40, false⟩), (.load none (.t 41))⟩, ⟨(some 43), (some ⟨40, false⟩), (.fieldAddr 1 (.t 5))⟩, ⟨(some 44), (some ⟨40, false⟩), (.load none (.t 43))⟩, ⟨(some 45), (some ⟨40, false⟩), (.bin .neq (.t 42) (.t 44))⟩, ⟨(some 46), none, (.pick (.t 40) (.c (.t (.bool true))) (.t 45))⟩, ⟨(some 47), none, (.mv (.t 46))⟩, ⟨(some 48), (some ⟨47, false⟩), (.fieldAddr 2 (.t 4))⟩, ⟨(some 49), (some ⟨47, false⟩), (.load none (.t 48))⟩, ⟨(some 50), (some ⟨47, false⟩), (.fieldAddr 2 (.t 5))⟩, ⟨(some 51), (some ⟨47, false⟩), (.load none (.t 50))⟩, ⟨(some 52), (some ⟨47, false⟩), (.bin .neq (.t 49) (.t 51))⟩, ⟨(some 53), none, (.pick (.t 47) (.c (.t (.bool true))) (.t 52))⟩]) (.cond (.t 53) (.seq (.ops [⟨(some 6), none, (.mv (.c (.t (.int .i64 1))))⟩, ⟨(some 7), none, (.mv (.c (.t (.int .i64 0))))⟩]) .ret) .skip)) (.seq (.ops [⟨(some 55), none, (.mv (.t 0))⟩, ⟨(some 56), none, (.load (some 7) (.t 5))⟩, ⟨(some 57), none, (.call (.c (.fn (.func 58) [])) [(.t 55), (.t 56)])⟩, ⟨(some 54), none, (.mv (.t 57))⟩, ⟨(some 58), none, (.extract (.t 54) 0)⟩, ⟨(some 59), none, (.extract (.t 54) 1)⟩, ⟨(some 12), none, (.mv (.t 58))⟩, ⟨(some 13), none, (.mv (.t 59))⟩]) (.seq (.seq (.ops [⟨(some 14), none, (.mv (.c (.t (.int .i64 0))))⟩]) (.block 0 (.loop (.seq (.seq (.ops [⟨(some 60), none, (.mv (.t 14))⟩, ⟨(some 61), none, (.mv (.t 12))⟩, ⟨(some 62), none, (.len false (.t 61))⟩, ⟨(some 63), none, (.bin .lss (.t 60) (.t 62))⟩]) (.cond (.t 63) .skip (.exit 0))) (.seq (.block 1 (.seq (.drawn [(.mk 0 false ⟨(some 66), none, (.mv (.t 12))⟩ []), (.mk 1 false ⟨(some 67), none, (.mv (.t 14))⟩ []), (.mk 2 false ⟨(some 68), none, (.indexAddr 11 (.t 66) (.t 67))⟩ []), (.mk 3 false ⟨(some 69), none, (.fieldAddr 8 (.t 68))⟩ []), (.mk 4 false ⟨(some 70), none, (.load none (.t 69))⟩ []), (.mk 5 false ⟨(some 71), none, (.mv (.t 70))⟩ []), (.mk 6 false ⟨(some 72), (some ⟨71, true⟩), (.fieldAddr 3 (.t 4))⟩ []), (.mk 7 false ⟨(some 73), (some ⟨71, true⟩), (.load none (.t 72))⟩ []), (.mk 8 false ⟨(some 74), (some ⟨71, true⟩), (.mv (.t 14))⟩ []), (.mk 9 false ⟨(some 75), (some ⟨71, true⟩), (.indexAddr 1 (.t 73) (.t 74))⟩ []), (.mk 10 false ⟨(some 76), (some ⟨71, true⟩), (.load none (.t 75))⟩ []), (.mk 11 false ⟨(some 77), (some ⟨71, true⟩), (.bin .neq (.t 76) (.c (.t (.str []))))⟩ []), (.mk 12 false ⟨(some 78), none, (.pick (.t 71) (.t 77) (.c (.t (.bool false))))⟩ []), (.mk 13 false ⟨(some 79), none, (.mv (.t 78))⟩ []), (.mk 14 false ⟨(some 80), (some ⟨79, true⟩), (.fieldAddr 3 (.t 4))⟩ []), (.mk 15 false ⟨(some 81), (some ⟨79, true⟩), (.load none (.t 80))⟩ []), (.mk 16 false ⟨(some 82), (some ⟨79, true⟩), (.mv (.t 14))⟩ []), (.mk 17 false ⟨(some 83), (some ⟨79, true⟩), (.indexAddr 1 (.t 81) (.t 82))⟩ []), (.mk 18 false ⟨(some 84), (some ⟨79, true⟩), (.load none (.t 83))⟩ []), (.mk 19 false ⟨(some 85), (some ⟨79, true⟩), (.fieldAddr 3 (.t 5))⟩ []), (.mk 20 false ⟨(some 86), (some ⟨79, true⟩), (.load none (.t 85))⟩ []), (.mk 21 false ⟨(some 87), (some ⟨79, true⟩), (.mv (.t 14))⟩ []), (.mk 22 false ⟨(some 88), (some ⟨79, true⟩), (.indexAddr 1 (.t 86) (.t 87))⟩ []), (.mk 23 false ⟨(some 89), (some ⟨79, true⟩), (.load none (.t 88))⟩ []), (.mk 24 false ⟨(some 90), (some ⟨79, true⟩), (.bin .neq (.t 84) (.t 89))⟩ []), (.mk 25 false ⟨(some 91), none, (.pick (.t 79) (.t 90) (.c (.t (.bool false))))⟩ [])]) (.cond (.t 91) (.seq (.ops [⟨(some 92), none, (.mv (.t 14))⟩, ⟨(some 6), none, (.mv (.c (.t (.int .i64 4))))⟩, ⟨(some 7), none, (.mv (.t 92))⟩]) .ret) .skip))) (.ops [⟨(some 64), none, (.mv (.t 14))⟩, ⟨(some 65), none, (.bin .add (.t 64) (.c (.t (.int .i64 1))))⟩, ⟨(some 14), none, (.mv (.t 65))⟩])))))) (.seq (.ops [⟨(some 6), none, (.mv (.c (.t (.int .i64 0))))⟩, ⟨(some 7), none, (.mv (.c (.t (.int .i64 0))))⟩]) .ret)))))))
theorem k_spec_GateTurned : comp Tryd.prog 93 (Tryd.f27.body.getD .skip) = some c_spec_GateTurned := by kernel_rfl

theorem spec_GateTurned (l : List GateShape) (hl : GateShape.OkS l) (a : GateObject) (ha : a.Ok) (o : GateObject) (ho : o.Ok)  (σ : Store) : ACalls Tryd.prog 27 [.t (tGateShapeS l), .agg (a.vs), .agg (o.vs)] σ fun rr σ' => rr = turnV l a o ∧ σ' = σ := by
  refine acalls_of Tryd.func27 (by decide +kernel) (code := Tryd.f27.body.getD .skip) (n := 93) (c := c_spec_GateTurned) (rs := [(.tmp 6), (.tmp 7)]) rfl rfl k_spec_GateTurned (by kernel_rfl) (by simp) (fun hσ => ?_)
  have hh : True := trivial
  have fin : ∀ {u : List V} {τ : Store}, mkRes u = turnV l a o → (mkRes u).lt σ.length = true → retV σ.length (fun rr σ' => rr = turnV l a o ∧ σ' = σ) (σ ++ τ) (some u) := fun h h2 => ret_same rfl hσ h2 ⟨h, rfl⟩
  have fin0 : ∀ {u : List V}, mkRes u = turnV l a o → retV σ.length (fun rr σ' => rr = turnV l a o ∧ σ' = σ) σ (some u) := fun h => ret_same0 rfl ⟨h, rfl⟩
  have y1 := ha.Values
  have y2 := ho.Values
  simp -implicitDefEqProofs only [c_spec_GateTurned, GateObject.vs, S0, S1, S2, S3, S4, S5, S6, S7, S8, S9, S10, S11, S12, S13, S14, S15, S16, S17, opv, opvs, eget, env0, setD, lenStr, lenSl, isNilP, isNilS, putAt, if_true, if_false, reduceCtorEq, Nat.reduceLeDiff, Nat.reduceEqDiff, Nat.reduceSub, Nat.reduceMul, Nat.reduceAdd]
  have c1 := spec_GateCheck l hl a ha
  have c2 := spec_GateCheck l hl o ho
  simp only [GateObject.vs, checkV] at c1 c2
  refine call_pure (c1 _) ?_
  simp -implicitDefEqProofs only [S0, S1, S2, S3, S4, S5, S6, S7, S8, S9, S10, S11, S12, S13, S14, S15, S16, S17, opv, opvs, eget, env0, setD, lenStr, lenSl, isNilP, isNilS, putAt, if_true, if_false, reduceCtorEq, Nat.reduceLeDiff, Nat.reduceEqDiff, Nat.reduceSub, Nat.reduceMul, Nat.reduceAdd]
  refine call_pure (c2 _) ?_
  simp -implicitDefEqProofs only [S0, S1, S2, S3, S4, S5, S6, S7, S8, S9, S10, S11, S12, S13, S14, S15, S16, S17, opv, opvs, eget, env0, setD, lenStr, lenSl, isNilP, isNilS, putAt, if_true, if_false, reduceCtorEq, Nat.reduceLeDiff, Nat.reduceEqDiff, Nat.reduceSub, Nat.reduceMul, Nat.reduceAdd]
  repeat' (first
    | ((with_reducible refine cond_known (fun h => ?_) (fun h => ?_)) <;> (replace hh := And.intro h hh; clear h; simp -implicitDefEqProofs only [hh, cond_t, cond_f, S0, S1, S2, S3, S4, S5, S6, S7, S8, S9, S10, S11, S12, S13, S14, S15, S16, S17, opv, opvs, eget, env0, setD, lenStr, lenSl, isNilP, isNilS, putAt, if_true, if_false, reduceCtorEq, Nat.reduceLeDiff, Nat.reduceEqDiff, Nat.reduceSub, Nat.reduceMul, Nat.reduceAdd]))
    | ((with_reducible refine fin ?_ ?_); rotate_left; exact rfl; (try simp only [Known] at hh); exact turn_no (by grind [turnB])))
  have hok : turnB l a o = true := by (try simp only [Known] at hh); grind [turnB]
  have hb := hok
  simp only [turnB, Bool.and_eq_true, beq_iff_eq] at hb
  obtain ⟨⟨⟨⟨q1, q2⟩, q3⟩, _⟩, _⟩ := hb
  obtain ⟨gs, hgs⟩ := check_some q1
  obtain ⟨fs, hf⟩ := check_some q2
  obtain rfl := fields_same q3 hgs hf
  obtain ⟨_, hal⟩ := fields_ok hgs hl
  obtain ⟨hfo, hfl⟩ := fields_ok hf hl
  have hc : turnR l a o = scanT (gs.zip (a.Values.zip o.Values)) 0 := by rw [turnR, hok, if_pos rfl]; simp only [hf]
  obtain ⟨z, hz⟩ : ∃ z, z = gs.zip (a.Values.zip o.Values) := ⟨_, rfl⟩
  rw [← hz] at hc
  have hzl : z.length = gs.length := by rw [hz, List.length_zip, List.length_zip]; omega
  clear hh
  have hh : True := trivial
  have y3 := hfo.1
  have c3 := spec_l2Fields l hl.1 o
  simp only [GateObject.vs, hf, fldV, tGateFieldS] at c3
  refine call_pure (c3 _) ?_
  simp -implicitDefEqProofs only [List.length_map, S0, S1, S2, S3, S4, S5, S6, S7, S8, S9, S10, S11, S12, S13, S14, S15, S16, S17, opv, opvs, eget, env0, setD, lenStr, lenSl, isNilP, isNilS, putAt, if_true, if_false, reduceCtorEq, Nat.reduceLeDiff, Nat.reduceEqDiff, Nat.reduceSub, Nat.reduceMul, Nat.reduceAdd]
  refine loop_p [14, 4, 5, 12] [4, 5, 12] (fun k : Nat => [(14, .t (.int .i64 (k : Nat)))]) (fun k => k ≤ gs.length ∧ scanT (z.drop k) k = scanT z 0) (fun k => gs.length - k) 0 (by simp) ⟨Nat.zero_le _, rfl⟩ rfl ?_
  rintro k ⟨hk, hsc⟩
  simp -implicitDefEqProofs only [keep, List.length_map, tGateFieldS, S0, S1, S2, S3, S4, S5, S6, S7, S8, S9, S10, S11, S12, S13, S14, S15, S16, S17, opv, opvs, eget, env0, setD, lenStr, lenSl, isNilP, isNilS, putAt, if_true, if_false, reduceCtorEq, Nat.reduceLeDiff, Nat.reduceEqDiff, Nat.reduceSub, Nat.reduceMul, Nat.reduceAdd]
  refine cond_split (fun h1 => ?_) (fun h1 => ?_)
  · obtain ⟨x, hx, hlt⟩ := at_of h1
    obtain ⟨u, hu⟩ : ∃ u, a.Values[k]? = some u := ⟨a.Values[k], by simp⟩
    obtain ⟨v, hv⟩ : ∃ v, o.Values[k]? = some v := ⟨o.Values[k], by simp⟩
    have hzk : z[k]? = some (x, (u, v)) := by rw [hz]; exact zip_get hx (zip_get hu hv)
    have hst := scanT_at hzk
    rw [hsc] at hst
    have more := i64_succ (show k < 4611686018427387904 by omega)
    have done : fixP (x, (u, v)) = true → mkRes [.t (.int .i64 4), .t (.int .i64 (k : Nat))] = turnV l a o := fun h => by
      rw [if_pos h] at hst
      rw [turnV, hc, hst]; rfl
    have on : fixP (x, (u, v)) = false → scanT (z.drop (k + 1)) (k + 1) = scanT z 0 := fun h => by rw [h, if_neg (by simp)] at hst; exact hst.symm
    rcases e1 : x.Fixed with _ | _
    · simp -implicitDefEqProofs only [hx, hv, hu, GateField.ts, GateField.vs, tStr, more, nat_nn, Nat.zero_le, List.getElem?_map, Option.map_some, List.length_map, e1, cond_t, cond_f, S0, S1, S2, S3, S4, S5, S6, S7, S8, S9, S10, S11, S12, S13, S14, S15, S16, S17, opv, opvs, eget, env0, setD, lenStr, lenSl, isNilP, isNilS, putAt, if_true, if_false, reduceCtorEq, Nat.reduceLeDiff, Nat.reduceEqDiff, Nat.reduceSub, Nat.reduceMul, Nat.reduceAdd]
      first | exact lk_p0 (k + 1) (by simp) (by simp) (by omega) ⟨by omega, on (by simp [fixP, e1])⟩ rfl | exact lk_p (k + 1) (by simp) (by simp) hσ rfl (by omega) ⟨by omega, on (by simp [fixP, e1])⟩ (by simp [ltE, keep, eget, V.lt, V.lts, V.ltss]) rfl | exact lk_pm (k + 1) (Nat.le_refl _) (by simp) hσ rfl rfl (by omega) ⟨by omega, on (by simp [fixP, e1])⟩ (by simp [ltE, keep, eget, V.lt, V.lts, V.ltss]) rfl
    rcases e2 : (u == []) with _ | _
    rotate_left
    · simp -implicitDefEqProofs only [hx, hv, hu, GateField.ts, GateField.vs, tStr, more, nat_nn, Nat.zero_le, List.getElem?_map, Option.map_some, List.length_map, e1, e2, Bool.not_true, Bool.not_false, cond_t, cond_f, S0, S1, S2, S3, S4, S5, S6, S7, S8, S9, S10, S11, S12, S13, S14, S15, S16, S17, opv, opvs, eget, env0, setD, lenStr, lenSl, isNilP, isNilS, putAt, if_true, if_false, reduceCtorEq, Nat.reduceLeDiff, Nat.reduceEqDiff, Nat.reduceSub, Nat.reduceMul, Nat.reduceAdd]
      first | exact lk_p0 (k + 1) (by simp) (by simp) (by omega) ⟨by omega, on (by simp [fixP, e1, e2])⟩ rfl | exact lk_p (k + 1) (by simp) (by simp) hσ rfl (by omega) ⟨by omega, on (by simp [fixP, e1, e2])⟩ (by simp [ltE, keep, eget, V.lt, V.lts, V.ltss]) rfl | exact lk_pm (k + 1) (Nat.le_refl _) (by simp) hσ rfl rfl (by omega) ⟨by omega, on (by simp [fixP, e1, e2])⟩ (by simp [ltE, keep, eget, V.lt, V.lts, V.ltss]) rfl
    rcases e3 : (u == v) with _ | _
    · simp -implicitDefEqProofs only [hx, hv, hu, GateField.ts, GateField.vs, tStr, more, nat_nn, Nat.zero_le, List.getElem?_map, Option.map_some, List.length_map, e1, e2, e3, Bool.not_true, Bool.not_false, cond_t, cond_f, S0, S1, S2, S3, S4, S5, S6, S7, S8, S9, S10, S11, S12, S13, S14, S15, S16, S17, opv, opvs, eget, env0, setD, lenStr, lenSl, isNilP, isNilS, putAt, if_true, if_false, reduceCtorEq, Nat.reduceLeDiff, Nat.reduceEqDiff, Nat.reduceSub, Nat.reduceMul, Nat.reduceAdd]
      (with_reducible refine fin ?_ ?_); rotate_left; exact rfl
      exact done (by simp [fixP, e1, e2, e3])
    · simp -implicitDefEqProofs only [hx, hv, hu, GateField.ts, GateField.vs, tStr, more, nat_nn, Nat.zero_le, List.getElem?_map, Option.map_some, List.length_map, e1, e2, e3, Bool.not_true, Bool.not_false, cond_t, cond_f, S0, S1, S2, S3, S4, S5, S6, S7, S8, S9, S10, S11, S12, S13, S14, S15, S16, S17, opv, opvs, eget, env0, setD, lenStr, lenSl, isNilP, isNilS, putAt, if_true, if_false, reduceCtorEq, Nat.reduceLeDiff, Nat.reduceEqDiff, Nat.reduceSub, Nat.reduceMul, Nat.reduceAdd]
      first | exact lk_p0 (k + 1) (by simp) (by simp) (by omega) ⟨by omega, on (by simp [fixP, e3])⟩ rfl | exact lk_p (k + 1) (by simp) (by simp) hσ rfl (by omega) ⟨by omega, on (by simp [fixP, e3])⟩ (by simp [ltE, keep, eget, V.lt, V.lts, V.ltss]) rfl | exact lk_pm (k + 1) (Nat.le_refl _) (by simp) hσ rfl rfl (by omega) ⟨by omega, on (by simp [fixP, e3])⟩ (by simp [ltE, keep, eget, V.lt, V.lts, V.ltss]) rfl
  · have hkk := end_of h1 hk
    simp -implicitDefEqProofs only [S0, S1, S2, S3, S4, S5, S6, S7, S8, S9, S10, S11, S12, S13, S14, S15, S16, S17, opv, opvs, eget, env0, setD, lenStr, lenSl, isNilP, isNilS, putAt, if_true, if_false, reduceCtorEq, Nat.reduceLeDiff, Nat.reduceEqDiff, Nat.reduceSub, Nat.reduceMul, Nat.reduceAdd]
    (with_reducible refine fin ?_ ?_); rotate_left; exact rfl
    rw [hkk, ← hzl, List.drop_length] at hsc
    rw [turnV, hc, ← hsc]; rfl

end Go.Proofs.YtcjchimenfadkaaDoor.W

end


section
open Go Go.Ab
set_option maxHeartbeats 2000000
namespace Go.Proofs.YtcjchimenfadkaaDoor.W
def c_impl_GateTurned : C := (.seq (.ops [⟨(some 4), none, (.box (.t 1))⟩, ⟨(some 5), none, (.box (.t 2))⟩, ⟨(some 6), none, (.mv (.c (.t (.int .i64 0))))⟩, ⟨(some 7), none, (.mv (.c (.t (.int .i64 0))))⟩]) (.seq (.seq (.ops [⟨(some 16), none, (.load (some 7) (.t 4))⟩, ⟨(some 17), none, (.load (some 7) (.t 5))⟩, ⟨(some 18), none, (.lit none 7 2 [(.t (.str [])), (.t (.str [])), (.t (.str [])), .nils, (.t (.bool false)), .nils, (.t (.int .i64 0))] [⟨0, (.t 16)⟩, ⟨1, (.t 17)⟩])⟩, ⟨(some 19), none, (.len false (.t 18))⟩, ⟨(some 20), none, (.mv (.c (.t (.int .i64 0))))⟩]) (.block 0 (.loop (.seq (.ops [⟨(some 21), none, (.bin .lss (.t 20) (.t 19))⟩]) (.seq (.cond (.t 21) .skip (.exit 0)) (.seq (.block 1 (.seq (.ops [⟨(some 22), none, (.indexAddr 7 (.t 18) (.t 20))⟩, ⟨(some 23), none, (.load (some 7) (.t 22))⟩, ⟨(some 9), none, (.new [(.t (.str [])), (.t (.str [])), (.t (.str [])), .nils, (.t (.bool false)), .nils, (.t (.int .i64 0))])⟩, ⟨none, none, (.store 7 (.t 9) (.t 23))⟩]) (.seq (.ops [⟨(some 25), none, (.mv (.t 0))⟩, ⟨(some 26), none, (.load (some 7) (.t 9))⟩, ⟨(some 27), none, (.call (.c (.fn (.func 24) [])) [(.t 25), (.t 26)])⟩, ⟨(some 24), none, (.mv (.t 27))⟩, ⟨(some 28), none, (.extract (.t 24) 0)⟩, ⟨(some 29), none, (.extract (.t 24) 1)⟩, ⟨(some 10), none, (.mv (.t 28))⟩, ⟨(some 11), none, (.mv (.t 29))⟩]) (.seq (.ops [⟨(some 30), none, (.mv (.t 10))⟩, ⟨(some 31), none, (.bin .neq (.t 30) (.c (.t (.int .i64 0))))⟩]) (.cond (.t 31) (.seq (.ops [⟨(some 6), none, (.mv (.c (.t (.int .i64 1))))⟩, ⟨(some 7), none, (.mv (.c (.t (.int .i64 0))))⟩]) .ret) .skip))))) (.ops [⟨(some 32), none, (.bin .add (.t 20) (.c (.t (.int .i64 1))))⟩, ⟨(some 20), none, (.mv (.t 32))⟩]))))))) (.seq (.seq (.ops [⟨(some 33), none, (.fieldAddr 0 (.t 4))⟩, ⟨(some 34), none, (.load none (.t 33))⟩, ⟨(some 35), none, (.fieldAddr 0 (.t 5))⟩, ⟨(some 36), none, (.load none (.t 35))⟩, ⟨(some 37), none, (.bin .neq (.t 34) (.t 36))⟩, ⟨(some 38), none, (.mv (.t 37))⟩, ⟨(some 39), (some ⟨38, false⟩), (.fieldAddr 1 (.t 4))⟩, ⟨(some 40), (some ⟨38, false⟩), (.load none (.t 39))⟩, ⟨(some 41), (some ⟨38, false⟩), (.fieldAddr 1 (.t 5))⟩, ⟨(some 42), (some ⟨38, false⟩), (.load none (.t 41))⟩, ⟨(some 43), (some ⟨38, false⟩), (.bin .neq (.t 40) (.t 42))⟩, ⟨(some 44), none, (.pick (.t 38) (.c (.t (.bool true))) (.t 43))⟩, ⟨(some 45), none, (.mv (.t 44))⟩, ⟨(some 46), (some ⟨45, false⟩), (.fieldAddr 2 (.t 4))⟩, ⟨(some 47), (some ⟨45, false⟩), (.load none (.t 46))⟩, ⟨(some 48), (some ⟨45, false⟩), (.fieldAddr 2 (.t 5))⟩, ⟨(some 49), (some ⟨45, false⟩), (.load none (.t 48))⟩, ⟨(some 50), (some ⟨45, false⟩), (.bin .neq (.t 47) (.t 49))⟩, ⟨(some 51), none, (.pick (.t 45) (.c (.t (.bool true))) (.t 50))⟩]) (.cond (.t 51) (.seq (.ops [⟨(some 6), none, (.mv (.c (.t (.int .i64 1))))⟩, ⟨(some 7), none, (.mv (.c (.t (.int .i64 0))))⟩]) .ret) .skip)) (.seq (.ops [⟨(some 53), none, (.mv (.t 0))⟩, ⟨(some 54), none, (.load (some 7) (.t 5))⟩, ⟨(some 55), none, (.call (.c (.fn (.func 59) [])) [(.t 53), (.t 54)])⟩, ⟨(some 52), none, (.mv (.t 55))⟩, ⟨(some 56), none, (.extract (.t 52) 0)⟩, ⟨(some 57), none, (.extract (.t 52) 1)⟩, ⟨(some 12), none, (.mv (.t 56))⟩, ⟨(some 13), none, (.mv (.t 57))⟩]) (.seq (.seq (.ops [⟨(some 58), none, (.mv (.t 12))⟩, ⟨(some 59), none, (.len false (.t 58))⟩, ⟨(some 60), none, (.mv (.c (.t (.int .i64 0))))⟩]) (.block 2 (.loop (.seq (.ops [⟨(some 61), none, (.bin .lss (.t 60) (.t 59))⟩]) (.seq (.cond (.t 61) .skip (.exit 2)) (.seq (.block 3 (.seq (.ops [⟨(some 62), none, (.mv (.t 60))⟩, ⟨(some 63), none, (.indexAddr 11 (.t 58) (.t 60))⟩, ⟨(some 64), none, (.load (some 11) (.t 63))⟩, ⟨(some 15), none, (.new [(.t (.str [])), (.t (.int .i64 0)), (.t (.int .i64 0)), (.t (.int .i64 0)), .nils, (.t (.str [])), (.t (.int .i64 0)), (.t (.bool false)), (.t (.bool false)), (.t (.str [])), (.t (.str []))])⟩, ⟨(some 14), none, (.mv (.t 62))⟩, ⟨none, none, (.store 11 (.t 15) (.t 64))⟩]) (.seq (.drawn [(.mk 0 false ⟨(some 65), none, (.fieldAddr 8 (.t 15))⟩ []), (.mk 1 false ⟨(some 66), none, (.load none (.t 65))⟩ []), (.mk 2 false ⟨(some 67), none, (.mv (.t 66))⟩ []), (.mk 3 false ⟨(some 68), (some ⟨67, true⟩), (.fieldAddr 3 (.t 4))⟩ []), (.mk 4 false ⟨(some 69), (some ⟨67, true⟩), (.load none (.t 68))⟩ []), (.mk 5 false ⟨(some 70), (some ⟨67, true⟩), (.mv (.t 14))⟩ []), (.mk 6 false ⟨(some 71), (some ⟨67, true⟩), (.indexAddr 1 (.t 69) (.t 70))⟩ []), (.mk 7 false ⟨(some 72), (some ⟨67, true⟩), (.load none (.t 71))⟩ []), (.mk 8 false ⟨(some 73), (some ⟨67, true⟩), (.bin .neq (.t 72) (.c (.t (.str []))))⟩ []), (.mk 9 false ⟨(some 74), none, (.pick (.t 67) (.t 73) (.c (.t (.bool false))))⟩ []), (.mk 10 false ⟨(some 75), none, (.mv (.t 74))⟩ []), (.mk 11 false ⟨(some 76), (some ⟨75, true⟩), (.fieldAddr 3 (.t 4))⟩ []), (.mk 12 false ⟨(some 77), (some ⟨75, true⟩), (.load none (.t 76))⟩ []), (.mk 13 false ⟨(some 78), (some ⟨75, true⟩), (.mv (.t 14))⟩ []), (.mk 14 false ⟨(some 79), (some ⟨75, true⟩), (.indexAddr 1 (.t 77) (.t 78))⟩ []), (.mk 15 false ⟨(some 80), (some ⟨75, true⟩), (.load none (.t 79))⟩ []), (.mk 16 false ⟨(some 81), (some ⟨75, true⟩), (.fieldAddr 3 (.t 5))⟩ []), (.mk 17 false ⟨(some 82), (some ⟨75, true⟩), (.load none (.t 81))⟩ []), (.mk 18 false ⟨(some 83), (some ⟨75, true⟩), (.mv (.t 14))⟩ []), (.mk 19 false ⟨(some 84), (some ⟨75, true⟩), (.indexAddr 1 (.t 82) (.t 83))⟩ []), (.mk 20 false ⟨(some 85), (some ⟨75, true⟩), (.load none (.t 84))⟩ []), (.mk 21 false ⟨(some 86), (some ⟨75, true⟩), (.bin .neq (.t 80) (.t 85))⟩ []), (.mk 22 false ⟨(some 87), none, (.pick (.t 75) (.t 86) (.c (.t (.bool false))))⟩ [])]) (.cond (.t 87) (.seq (.ops [⟨(some 88), none, (.mv (.t 14))⟩, ⟨(some 6), none, (.mv (.c (.t (.int .i64 4))))⟩, ⟨(some 7), none, (.mv (.t 88))⟩]) .ret) .skip)))) (.ops [⟨(some 89), none, (.bin .add (.t 60) (.c (.t (.int .i64 1))))⟩, ⟨(some 60), none, (.mv (.t 89))⟩]))))))) (.seq (.ops [⟨(some 6), none, (.mv (.c (.t (.int .i64 0))))⟩, ⟨(some 7), none, (.mv (.c (.t (.int .i64 0))))⟩]) .ret))))))
theorem k_impl_GateTurned : comp Tryd.prog 90 (Tryd.f28.body.getD .skip) = some c_impl_GateTurned := by kernel_rfl

theorem impl_GateTurned (l : List GateShape) (hl : GateShape.OkS l) (a : GateObject) (ha : a.Ok) (o : GateObject) (ho : o.Ok)  (σ : Store) (hg : ErrAt σ) : ACalls Tryd.prog 28 [.t (tGateShapeS l), .agg (a.vs), .agg (o.vs)] σ fun rr σ' => rr = turnV l a o ∧ σ' = σ := by
  refine acalls_of Tryd.func28 (by decide +kernel) (code := Tryd.f28.body.getD .skip) (n := 90) (c := c_impl_GateTurned) (rs := [(.tmp 6), (.tmp 7)]) rfl rfl k_impl_GateTurned (by kernel_rfl) (by simp) (fun hσ => ?_)
  have hh : True := trivial
  have fin : ∀ {u : List V} {τ : Store}, mkRes u = turnV l a o → (mkRes u).lt σ.length = true → retV σ.length (fun rr σ' => rr = turnV l a o ∧ σ' = σ) (σ ++ τ) (some u) := fun h h2 => ret_same rfl hσ h2 ⟨h, rfl⟩
  have fin0 : ∀ {u : List V}, mkRes u = turnV l a o → retV σ.length (fun rr σ' => rr = turnV l a o ∧ σ' = σ) σ (some u) := fun h => ret_same0 rfl ⟨h, rfl⟩
  have y1 := ha.Values
  have y2 := ho.Values
  simp -implicitDefEqProofs only [c_impl_GateTurned, GateObject.vs, S0, S1, S2, S3, S4, S5, S6, S7, S8, S9, S10, S11, S12, S13, S14, S15, S16, S17, opv, opvs, eget, env0, setD, lenStr, lenSl, isNilP, isNilS, putAt, if_true, if_false, reduceCtorEq, Nat.reduceLeDiff, Nat.reduceEqDiff, Nat.reduceSub, Nat.reduceMul, Nat.reduceAdd]
  have c1 := impl_GateCheck l hl a ha
  have c2 := impl_GateCheck l hl o ho
  simp only [GateObject.vs, checkV] at c1 c2
  refine ⟨by omega, by omega, false, ?_⟩
  simp -implicitDefEqProofs only [S0, S1, S2, S3, S4, S5, S6, S7, S8, S9, S10, S11, S12, S13, S14, S15, S16, S17, opv, opvs, eget, env0, setD, lenStr, lenSl, isNilP, isNilS, putAt, if_true, if_false, reduceCtorEq, Nat.reduceLeDiff, Nat.reduceEqDiff, Nat.reduceSub, Nat.reduceMul, Nat.reduceAdd]
  refine loop_p [20, 0, 4, 5, 18, 19] [0, 4, 5, 18, 19] (fun k : Nat => [(20, .t (.int .i64 (k : Nat)))]) (fun k => k ≤ 2 ∧ (1 ≤ k → (checkR l a).1 = 0) ∧ (k = 2 → (checkR l o).1 = 0)) (fun k => 2 - k) 0 (by simp) ⟨by omega, by omega, by omega⟩ rfl ?_
  rintro k ⟨hk, hk1, hk2⟩
  simp -implicitDefEqProofs only [keep, List.length_map, S0, S1, S2, S3, S4, S5, S6, S7, S8, S9, S10, S11, S12, S13, S14, S15, S16, S17, opv, opvs, eget, env0, setD, lenStr, lenSl, isNilP, isNilS, putAt, if_true, if_false, reduceCtorEq, Nat.reduceLeDiff, Nat.reduceEqDiff, Nat.reduceSub, Nat.reduceMul, Nat.reduceAdd]
  rcases (by omega : k = 0 ∨ k = 1 ∨ k = 2) with rfl | rfl | rfl
  · refine cond_split (fun h1 => ?_) (fun h1 => ?_)
    rotate_left
    · simp at h1
    simp -implicitDefEqProofs only [nat_nn, Nat.zero_le, List.getElem?_map, Option.map_some, List.length_map, S0, S1, S2, S3, S4, S5, S6, S7, S8, S9, S10, S11, S12, S13, S14, S15, S16, S17, opv, opvs, eget, env0, setD, lenStr, lenSl, isNilP, isNilS, putAt, if_true, if_false, reduceCtorEq, Nat.reduceLeDiff, Nat.reduceEqDiff, Nat.reduceSub, Nat.reduceMul, Nat.reduceAdd]
    refine call_pure (c1 _ (by repeat' (first | exact hg | refine VarAt.app ?_ _))) ?_
    simp -implicitDefEqProofs only [S0, S1, S2, S3, S4, S5, S6, S7, S8, S9, S10, S11, S12, S13, S14, S15, S16, S17, opv, opvs, eget, env0, setD, lenStr, lenSl, isNilP, isNilS, putAt, if_true, if_false, reduceCtorEq, Nat.reduceLeDiff, Nat.reduceEqDiff, Nat.reduceSub, Nat.reduceMul, Nat.reduceAdd]
    refine cond_split (fun h2 => ?_) (fun h2 => ?_)
    · simp -implicitDefEqProofs only [S0, S1, S2, S3, S4, S5, S6, S7, S8, S9, S10, S11, S12, S13, S14, S15, S16, S17, opv, opvs, eget, env0, setD, lenStr, lenSl, isNilP, isNilS, putAt, if_true, if_false, reduceCtorEq, Nat.reduceLeDiff, Nat.reduceEqDiff, Nat.reduceSub, Nat.reduceMul, Nat.reduceAdd]
      (with_reducible refine fin ?_ ?_); rotate_left; exact rfl
      exact turn_no (by grind [turnB])
    · simp -implicitDefEqProofs only [cond_t, cond_f, S0, S1, S2, S3, S4, S5, S6, S7, S8, S9, S10, S11, S12, S13, S14, S15, S16, S17, opv, opvs, eget, env0, setD, lenStr, lenSl, isNilP, isNilS, putAt, if_true, if_false, reduceCtorEq, Nat.reduceLeDiff, Nat.reduceEqDiff, Nat.reduceSub, Nat.reduceMul, Nat.reduceAdd]
      have h3 : (checkR l a).1 = 0 := by simpa using h2
      first | exact lk_p0 1 (by simp) (by simp) (by omega) ⟨by omega, fun _ => h3, by omega⟩ rfl | exact lk_p 1 (by simp) (by simp) hσ rfl (by omega) ⟨by omega, fun _ => h3, by omega⟩ (by simp [ltE, keep, eget, V.lt, V.lts, V.ltss]) rfl | exact lk_pm 1 (Nat.le_refl _) (by simp) hσ rfl rfl (by omega) ⟨by omega, fun _ => h3, by omega⟩ (by simp [ltE, keep, eget, V.lt, V.lts, V.ltss]) rfl
  · have h3 := hk1 (by omega)
    refine cond_split (fun h1 => ?_) (fun h1 => ?_)
    rotate_left
    · simp at h1
    simp -implicitDefEqProofs only [nat_nn, Nat.zero_le, List.getElem?_map, Option.map_some, List.length_map, S0, S1, S2, S3, S4, S5, S6, S7, S8, S9, S10, S11, S12, S13, S14, S15, S16, S17, opv, opvs, eget, env0, setD, lenStr, lenSl, isNilP, isNilS, putAt, if_true, if_false, reduceCtorEq, Nat.reduceLeDiff, Nat.reduceEqDiff, Nat.reduceSub, Nat.reduceMul, Nat.reduceAdd]
    refine call_pure (c2 _ (by repeat' (first | exact hg | refine VarAt.app ?_ _))) ?_
    simp -implicitDefEqProofs only [S0, S1, S2, S3, S4, S5, S6, S7, S8, S9, S10, S11, S12, S13, S14, S15, S16, S17, opv, opvs, eget, env0, setD, lenStr, lenSl, isNilP, isNilS, putAt, if_true, if_false, reduceCtorEq, Nat.reduceLeDiff, Nat.reduceEqDiff, Nat.reduceSub, Nat.reduceMul, Nat.reduceAdd]
    refine cond_split (fun h2 => ?_) (fun h2 => ?_)
    · simp -implicitDefEqProofs only [S0, S1, S2, S3, S4, S5, S6, S7, S8, S9, S10, S11, S12, S13, S14, S15, S16, S17, opv, opvs, eget, env0, setD, lenStr, lenSl, isNilP, isNilS, putAt, if_true, if_false, reduceCtorEq, Nat.reduceLeDiff, Nat.reduceEqDiff, Nat.reduceSub, Nat.reduceMul, Nat.reduceAdd]
      (with_reducible refine fin ?_ ?_); rotate_left; exact rfl
      exact turn_no (by grind [turnB])
    · simp -implicitDefEqProofs only [cond_t, cond_f, S0, S1, S2, S3, S4, S5, S6, S7, S8, S9, S10, S11, S12, S13, S14, S15, S16, S17, opv, opvs, eget, env0, setD, lenStr, lenSl, isNilP, isNilS, putAt, if_true, if_false, reduceCtorEq, Nat.reduceLeDiff, Nat.reduceEqDiff, Nat.reduceSub, Nat.reduceMul, Nat.reduceAdd]
      have h4 : (checkR l o).1 = 0 := by simpa using h2
      first | exact lk_p0 2 (by simp) (by simp) (by omega) ⟨by omega, fun _ => h3, fun _ => h4⟩ rfl | exact lk_p 2 (by simp) (by simp) hσ rfl (by omega) ⟨by omega, fun _ => h3, fun _ => h4⟩ (by simp [ltE, keep, eget, V.lt, V.lts, V.ltss]) rfl | exact lk_pm 2 (Nat.le_refl _) (by simp) hσ rfl rfl (by omega) ⟨by omega, fun _ => h3, fun _ => h4⟩ (by simp [ltE, keep, eget, V.lt, V.lts, V.ltss]) rfl
  have h3 := hk1 (by omega)
  have h4 := hk2 rfl
  refine cond_split (fun h1 => ?_) (fun h1 => ?_)
  · simp at h1
  simp -implicitDefEqProofs only [nat_nn, Nat.zero_le, List.getElem?_map, Option.map_some, List.length_map, S0, S1, S2, S3, S4, S5, S6, S7, S8, S9, S10, S11, S12, S13, S14, S15, S16, S17, opv, opvs, eget, env0, setD, lenStr, lenSl, isNilP, isNilS, putAt, if_true, if_false, reduceCtorEq, Nat.reduceLeDiff, Nat.reduceEqDiff, Nat.reduceSub, Nat.reduceMul, Nat.reduceAdd]
  repeat' (first
    | ((with_reducible refine cond_known (fun h => ?_) (fun h => ?_)) <;> (replace hh := And.intro h hh; clear h; simp -implicitDefEqProofs only [hh, cond_t, cond_f, S0, S1, S2, S3, S4, S5, S6, S7, S8, S9, S10, S11, S12, S13, S14, S15, S16, S17, opv, opvs, eget, env0, setD, lenStr, lenSl, isNilP, isNilS, putAt, if_true, if_false, reduceCtorEq, Nat.reduceLeDiff, Nat.reduceEqDiff, Nat.reduceSub, Nat.reduceMul, Nat.reduceAdd]))
    | ((with_reducible refine fin ?_ ?_); rotate_left; exact rfl; (try simp only [Known] at hh); exact turn_no (by grind [turnB])))
  have hok : turnB l a o = true := by (try simp only [Known] at hh); grind [turnB]
  have hb := hok
  simp only [turnB, Bool.and_eq_true, beq_iff_eq] at hb
  obtain ⟨⟨⟨⟨q1, q2⟩, q3⟩, _⟩, _⟩ := hb
  obtain ⟨gs, hgs⟩ := check_some q1
  obtain ⟨fs, hf⟩ := check_some q2
  obtain rfl := fields_same q3 hgs hf
  obtain ⟨_, hal⟩ := fields_ok hgs hl
  obtain ⟨hfo, hfl⟩ := fields_ok hf hl
  have hc : turnR l a o = scanT (gs.zip (a.Values.zip o.Values)) 0 := by rw [turnR, hok, if_pos rfl]; simp only [hf]
  obtain ⟨z, hz⟩ : ∃ z, z = gs.zip (a.Values.zip o.Values) := ⟨_, rfl⟩
  rw [← hz] at hc
  have hzl : z.length = gs.length := by rw [hz, List.length_zip, List.length_zip]; omega
  clear hh
  have hh : True := trivial
  have y3 := hfo.1
  have c3 := impl_fieldsOf l hl.1 o
  simp only [GateObject.vs, hf, fldV, tGateFieldS] at c3
  refine call_pure (c3 _) ?_
  simp -implicitDefEqProofs only [List.length_map, S0, S1, S2, S3, S4, S5, S6, S7, S8, S9, S10, S11, S12, S13, S14, S15, S16, S17, opv, opvs, eget, env0, setD, lenStr, lenSl, isNilP, isNilS, putAt, if_true, if_false, reduceCtorEq, Nat.reduceLeDiff, Nat.reduceEqDiff, Nat.reduceSub, Nat.reduceMul, Nat.reduceAdd]
  refine loop_p [60, 4, 5, 58, 59] [4, 5, 58, 59] (fun k : Nat => [(60, .t (.int .i64 (k : Nat)))]) (fun k => k ≤ gs.length ∧ scanT (z.drop k) k = scanT z 0) (fun k => gs.length - k) 0 (by simp) ⟨Nat.zero_le _, rfl⟩ rfl ?_
  rintro k ⟨hk, hsc⟩
  simp -implicitDefEqProofs only [keep, List.length_map, tGateFieldS, S0, S1, S2, S3, S4, S5, S6, S7, S8, S9, S10, S11, S12, S13, S14, S15, S16, S17, opv, opvs, eget, env0, setD, lenStr, lenSl, isNilP, isNilS, putAt, if_true, if_false, reduceCtorEq, Nat.reduceLeDiff, Nat.reduceEqDiff, Nat.reduceSub, Nat.reduceMul, Nat.reduceAdd]
  refine cond_split (fun h1 => ?_) (fun h1 => ?_)
  · obtain ⟨x, hx, hlt⟩ := at_of h1
    obtain ⟨u, hu⟩ : ∃ u, a.Values[k]? = some u := ⟨a.Values[k], by simp⟩
    obtain ⟨v, hv⟩ : ∃ v, o.Values[k]? = some v := ⟨o.Values[k], by simp⟩
    have hzk : z[k]? = some (x, (u, v)) := by rw [hz]; exact zip_get hx (zip_get hu hv)
    have hst := scanT_at hzk
    rw [hsc] at hst
    have more := i64_succ (show k < 4611686018427387904 by omega)
    have done : fixP (x, (u, v)) = true → mkRes [.t (.int .i64 4), .t (.int .i64 (k : Nat))] = turnV l a o := fun h => by
      rw [if_pos h] at hst
      rw [turnV, hc, hst]; rfl
    have on : fixP (x, (u, v)) = false → scanT (z.drop (k + 1)) (k + 1) = scanT z 0 := fun h => by rw [h, if_neg (by simp)] at hst; exact hst.symm
    rcases e1 : x.Fixed with _ | _
    · simp -implicitDefEqProofs only [hx, hv, hu, GateField.ts, GateField.vs, tStr, more, nat_nn, Nat.zero_le, List.getElem?_map, Option.map_some, List.length_map, e1, cond_t, cond_f, S0, S1, S2, S3, S4, S5, S6, S7, S8, S9, S10, S11, S12, S13, S14, S15, S16, S17, opv, opvs, eget, env0, setD, lenStr, lenSl, isNilP, isNilS, putAt, if_true, if_false, reduceCtorEq, Nat.reduceLeDiff, Nat.reduceEqDiff, Nat.reduceSub, Nat.reduceMul, Nat.reduceAdd]
      first | exact lk_p0 (k + 1) (by simp) (by simp) (by omega) ⟨by omega, on (by simp [fixP, e1])⟩ rfl | exact lk_p (k + 1) (by simp) (by simp) hσ rfl (by omega) ⟨by omega, on (by simp [fixP, e1])⟩ (by simp [ltE, keep, eget, V.lt, V.lts, V.ltss]) rfl | exact lk_pm (k + 1) (Nat.le_refl _) (by simp) hσ rfl rfl (by omega) ⟨by omega, on (by simp [fixP, e1])⟩ (by simp [ltE, keep, eget, V.lt, V.lts, V.ltss]) rfl
    rcases e2 : (u == []) with _ | _
    rotate_left
    · simp -implicitDefEqProofs only [hx, hv, hu, GateField.ts, GateField.vs, tStr, more, nat_nn, Nat.zero_le, List.getElem?_map, Option.map_some, List.length_map, e1, e2, Bool.not_true, Bool.not_false, cond_t, cond_f, S0, S1, S2, S3, S4, S5, S6, S7, S8, S9, S10, S11, S12, S13, S14, S15, S16, S17, opv, opvs, eget, env0, setD, lenStr, lenSl, isNilP, isNilS, putAt, if_true, if_false, reduceCtorEq, Nat.reduceLeDiff, Nat.reduceEqDiff, Nat.reduceSub, Nat.reduceMul, Nat.reduceAdd]
      first | exact lk_p0 (k + 1) (by simp) (by simp) (by omega) ⟨by omega, on (by simp [fixP, e1, e2])⟩ rfl | exact lk_p (k + 1) (by simp) (by simp) hσ rfl (by omega) ⟨by omega, on (by simp [fixP, e1, e2])⟩ (by simp [ltE, keep, eget, V.lt, V.lts, V.ltss]) rfl | exact lk_pm (k + 1) (Nat.le_refl _) (by simp) hσ rfl rfl (by omega) ⟨by omega, on (by simp [fixP, e1, e2])⟩ (by simp [ltE, keep, eget, V.lt, V.lts, V.ltss]) rfl
    rcases e3 : (u == v) with _ | _
    · simp -implicitDefEqProofs only [hx, hv, hu, GateField.ts, GateField.vs, tStr, more, nat_nn, Nat.zero_le, List.getElem?_map, Option.map_some, List.length_map, e1, e2, e3, Bool.not_true, Bool.not_false, cond_t, cond_f, S0, S1, S2, S3, S4, S5, S6, S7, S8, S9, S10, S11, S12, S13, S14, S15, S16, S17, opv, opvs, eget, env0, setD, lenStr, lenSl, isNilP, isNilS, putAt, if_true, if_false, reduceCtorEq, Nat.reduceLeDiff, Nat.reduceEqDiff, Nat.reduceSub, Nat.reduceMul, Nat.reduceAdd]
      (with_reducible refine fin ?_ ?_); rotate_left; exact rfl
      exact done (by simp [fixP, e1, e2, e3])
    · simp -implicitDefEqProofs only [hx, hv, hu, GateField.ts, GateField.vs, tStr, more, nat_nn, Nat.zero_le, List.getElem?_map, Option.map_some, List.length_map, e1, e2, e3, Bool.not_true, Bool.not_false, cond_t, cond_f, S0, S1, S2, S3, S4, S5, S6, S7, S8, S9, S10, S11, S12, S13, S14, S15, S16, S17, opv, opvs, eget, env0, setD, lenStr, lenSl, isNilP, isNilS, putAt, if_true, if_false, reduceCtorEq, Nat.reduceLeDiff, Nat.reduceEqDiff, Nat.reduceSub, Nat.reduceMul, Nat.reduceAdd]
      first | exact lk_p0 (k + 1) (by simp) (by simp) (by omega) ⟨by omega, on (by simp [fixP, e3])⟩ rfl | exact lk_p (k + 1) (by simp) (by simp) hσ rfl (by omega) ⟨by omega, on (by simp [fixP, e3])⟩ (by simp [ltE, keep, eget, V.lt, V.lts, V.ltss]) rfl | exact lk_pm (k + 1) (Nat.le_refl _) (by simp) hσ rfl rfl (by omega) ⟨by omega, on (by simp [fixP, e3])⟩ (by simp [ltE, keep, eget, V.lt, V.lts, V.ltss]) rfl
  · have hkk := end_of h1 hk
    simp -implicitDefEqProofs only [S0, S1, S2, S3, S4, S5, S6, S7, S8, S9, S10, S11, S12, S13, S14, S15, S16, S17, opv, opvs, eget, env0, setD, lenStr, lenSl, isNilP, isNilS, putAt, if_true, if_false, reduceCtorEq, Nat.reduceLeDiff, Nat.reduceEqDiff, Nat.reduceSub, Nat.reduceMul, Nat.reduceAdd]
    (with_reducible refine fin ?_ ?_); rotate_left; exact rfl
    rw [hkk, ← hzl, List.drop_length] at hsc
    rw [turnV, hc, ← hsc]; rfl

end Go.Proofs.YtcjchimenfadkaaDoor.W

end
