/- What an object weighs. Conditions: none. -/
/- What a team has of a resource. Conditions: none. -/
import Derived.Test.YtgdmgoidfglobaaGateFields
import Derived.Test.YtgdmgoidfglobaaUnder2
set_option linter.unusedSimpArgs false
set_option linter.unusedVariables false
set_option linter.defProp false

section
open Go Go.Ab
set_option maxHeartbeats 2000000
namespace Go.Proofs.Ytgdmgoidfglobaa.W
def weighStep (res : List UInt8) (n : Int) (p : GateField × List UInt8) : Int := if (p.1.Kind == 1 && p.1.Weighs == res) = true then n + decV p.2 else n
def weighsR (l : List GateShape) (o : GateObject) (res : List UInt8) : Int := match fieldsR l o with
  | some fs => if (res == []) = true then 0 else (fs.zip o.Values).foldl (weighStep res) (if (res == o.Kind) = true then 1 else 0)
  | none => 0
theorem weigh_bnd (res : List UInt8) : ∀ (l : List (GateField × List UInt8)) (n : Int), 0 ≤ n → 0 ≤ l.foldl (weighStep res) n ∧ l.foldl (weighStep res) n ≤ n + l.length * 10000000
  | [], n, h => by simp [h]
  | p :: l, n, h => by
    have h1 := dec_bnd p.2
    have h2 : 0 ≤ weighStep res n p ∧ weighStep res n p ≤ n + 10000000 := by unfold weighStep; split <;> omega
    have h3 := weigh_bnd res l (weighStep res n p) h2.1
    simp only [List.foldl_cons, List.length_cons]
    omega
def wAcc (res : List UInt8) (fs : List GateField) (vs : List (List UInt8)) (n : Int) (k : Nat) : Int := ((fs.zip vs).take k).foldl (weighStep res) n
theorem wAcc_bnd {res : List UInt8} {fs : List GateField} {vs : List (List UInt8)} {n : Int} {k : Nat} (hk : k ≤ 1048576) (hn : 0 ≤ n) (hn1 : n ≤ 1) : 0 ≤ wAcc res fs vs n k ∧ wAcc res fs vs n k ≤ 20000000000000 := by
  have h1 := weigh_bnd res ((fs.zip vs).take k) n hn
  have h2 : ((fs.zip vs).take k).length ≤ k := by rw [List.length_take]; omega
  unfold wAcc
  omega
theorem wAcc_succ {res : List UInt8} {fs : List GateField} {vs : List (List UInt8)} {n : Int} {k : Nat} {f : GateField} {v : List UInt8} (hf : fs[k]? = some f) (hv : vs[k]? = some v) : wAcc res fs vs n (k + 1) = weighStep res (wAcc res fs vs n k) (f, v) := by
  have h : (fs.zip vs)[k]? = some (f, v) := by rw [List.getElem?_zip_eq_some]; exact ⟨hf, hv⟩
  unfold wAcc
  rw [take_of h, List.foldl_append]; rfl
theorem wAcc_all {res : List UInt8} {fs : List GateField} {vs : List (List UInt8)} {n : Int} (h : fs.length = vs.length) : wAcc res fs vs n fs.length = (fs.zip vs).foldl (weighStep res) n := by
  unfold wAcc
  rw [List.take_of_length_le (by rw [List.length_zip]; omega)]

def c_spec_GateWeighs : C := (.seq (.ops [⟨(some 3), none, (.box (.t 0))⟩, ⟨(some 4), none, (.box (.t 1))⟩, ⟨(some 6), none, (.mv (.c (.t (.int .i64 0))))⟩]) (.seq (.ops [⟨(some 13), none, (.fieldAddr 0 (.t 3))⟩, ⟨(some 14), none, (.load none (.t 13))⟩, ⟨(some 15), none, (.load (some 7) (.t 4))⟩, ⟨(some 16), none, (.call (.c (.fn (.func 103) [])) [(.t 14), (.t 15)])⟩, ⟨(some 12), none, (.mv (.t 16))⟩, ⟨(some 17), none, (.extract (.t 12) 0)⟩, ⟨(some 18), none, (.extract (.t 12) 1)⟩, ⟨(some 7), none, (.mv (.t 17))⟩, ⟨(some 8), none, (.mv (.t 18))⟩]) (.seq (.seq (.ops [⟨(some 19), none, (.mv (.t 8))⟩, ⟨(some 20), none, (.un .not (.t 19))⟩, ⟨(some 21), none, (.mv (.t 20))⟩, ⟨(some 22), (some ⟨21, false⟩), (.mv (.t 2))⟩, ⟨(some 23), (some ⟨21, false⟩), (.bin .eql (.t 22) (.c (.t (.str []))))⟩, ⟨(some 24), none, (.pick (.t 21) (.c (.t (.bool true))) (.t 23))⟩]) (.cond (.t 24) (.seq (.ops [⟨(some 6), none, (.mv (.c (.t (.int .i64 0))))⟩]) .ret) .skip)) (.seq (.ops [⟨(some 9), none, (.mv (.c (.t (.int .i64 0))))⟩]) (.seq (.seq (.ops [⟨(some 25), none, (.mv (.t 2))⟩, ⟨(some 26), none, (.fieldAddr 0 (.t 4))⟩, ⟨(some 27), none, (.load none (.t 26))⟩, ⟨(some 28), none, (.bin .eql (.t 25) (.t 27))⟩]) (.cond (.t 28) (.ops [⟨(some 9), none, (.mv (.c (.t (.int .i64 1))))⟩]) .skip)) (.seq (.seq (.ops [⟨(some 10), none, (.mv (.c (.t (.int .i64 0))))⟩]) (.block 0 (.loop (.seq (.seq (.ops [⟨(some 29), none, (.mv (.t 10))⟩, ⟨(some 30), none, (.mv (.t 7))⟩, ⟨(some 31), none, (.len false (.t 30))⟩, ⟨(some 32), none, (.bin .lss (.t 29) (.t 31))⟩]) (.cond (.t 32) .skip (.exit 0))) (.seq (.block 1 (.seq (.ops [⟨(some 35), none, (.fieldAddr 3 (.t 4))⟩, ⟨(some 36), none, (.load none (.t 35))⟩, ⟨(some 37), none, (.mv (.t 10))⟩, ⟨(some 38), none, (.indexAddr 1 (.t 36) (.t 37))⟩, ⟨(some 39), none, (.load none (.t 38))⟩, ⟨(some 40), none, (.call (.c (.fn (.func 86) [])) [(.t 39)])⟩, ⟨(some 11), none, (.mv (.t 40))⟩]) (.seq (.ops [⟨(some 41), none, (.mv (.t 7))⟩, ⟨(some 42), none, (.mv (.t 10))⟩, ⟨(some 43), none, (.indexAddr 11 (.t 41) (.t 42))⟩, ⟨(some 44), none, (.fieldAddr 1 (.t 43))⟩, ⟨(some 45), none, (.load none (.t 44))⟩, ⟨(some 46), none, (.bin .eql (.t 45) (.c (.t (.int .i64 1))))⟩, ⟨(some 47), none, (.mv (.t 46))⟩, ⟨(some 48), (some ⟨47, true⟩), (.mv (.t 7))⟩, ⟨(some 49), (some ⟨47, true⟩), (.mv (.t 10))⟩, ⟨(some 50), (some ⟨47, true⟩), (.indexAddr 11 (.t 48) (.t 49))⟩, ⟨(some 51), (some ⟨47, true⟩), (.fieldAddr 10 (.t 50))⟩, ⟨(some 52), (some ⟨47, true⟩), (.load none (.t 51))⟩, ⟨(some 53), (some ⟨47, true⟩), (.mv (.t 2))⟩, ⟨(some 54), (some ⟨47, true⟩), (.bin .eql (.t 52) (.t 53))⟩, ⟨(some 55), none, (.pick (.t 47) (.t 54) (.c (.t (.bool false))))⟩, ⟨(some 56), none, (.mv (.t 55))⟩, ⟨(some 57), (some ⟨56, true⟩), (.mv (.t 11))⟩, ⟨(some 58), (some ⟨56, true⟩), (.bin .gtr (.t 57) (.c (.t (.int .i64 0))))⟩, ⟨(some 59), none, (.pick (.t 56) (.t 58) (.c (.t (.bool false))))⟩]) (.cond (.t 59) (.ops [⟨(some 60), none, (.mv (.t 9))⟩, ⟨(some 61), none, (.mv (.t 11))⟩, ⟨(some 62), none, (.bin .add (.t 60) (.t 61))⟩, ⟨(some 9), none, (.mv (.t 62))⟩]) .skip)))) (.ops [⟨(some 33), none, (.mv (.t 10))⟩, ⟨(some 34), none, (.bin .add (.t 33) (.c (.t (.int .i64 1))))⟩, ⟨(some 10), none, (.mv (.t 34))⟩])))))) (.seq (.ops [⟨(some 63), none, (.mv (.t 9))⟩, ⟨(some 6), none, (.mv (.t 63))⟩]) .ret)))))))
theorem k_spec_GateWeighs : comp Try.prog 64 (Try.f46.body.getD .skip) = some c_spec_GateWeighs := by kernel_rfl

theorem spec_GateWeighs (l : GateLaw) (hl : l.Ok) (o : GateObject) (ho : o.Ok) (res : List UInt8) (hs : res.length ≤ 1048576) (σ : Store) : ACalls Try.prog 46 [.agg (l.vs), .agg (o.vs), .t (.str (res))] σ fun rr σ' => rr = .t (.int .i64 (weighsR l.Shapes o res)) ∧ σ' = σ := by
  refine acalls_of Try.func46 (by decide +kernel) (code := Try.f46.body.getD .skip) (n := 64) (c := c_spec_GateWeighs) (rs := [(.tmp 6)]) rfl rfl k_spec_GateWeighs (by kernel_rfl) (by simp) (fun hσ => ?_)
  have hh : True := trivial
  have fin : ∀ {u : V} {τ : Store}, u = .t (.int .i64 (weighsR l.Shapes o res)) → u.lt σ.length = true → retV σ.length (fun rr σ' => rr = .t (.int .i64 (weighsR l.Shapes o res)) ∧ σ' = σ) (σ ++ τ) (some [u]) := fun h h2 => ret_same rfl hσ h2 ⟨h, rfl⟩
  have fin0 : ∀ {u : V}, u = .t (.int .i64 (weighsR l.Shapes o res)) → retV σ.length (fun rr σ' => rr = .t (.int .i64 (weighsR l.Shapes o res)) ∧ σ' = σ) σ (some [u]) := fun h => ret_same0 rfl ⟨h, rfl⟩
  simp -implicitDefEqProofs only [c_spec_GateWeighs, tStr, fldV, GateLaw.vs, GateObject.vs, GateField.ts, tGateFieldS, tStrs, nat_nn, Nat.zero_le, List.getElem?_map, Option.map_some, List.length_map, S0, S1, S2, S3, S4, S5, S6, S7, S8, S9, S10, S11, S12, S13, S14, S15, S16, S17, opv, opvs, eget, env0, setD, lenStr, lenSl, isNilP, isNilS, putAt, if_true, if_false, reduceCtorEq, Nat.reduceLeDiff, Nat.reduceEqDiff, Nat.reduceSub, Nat.reduceMul, Nat.reduceAdd]
  refine call_pure (spec_l2Fields l.Shapes hl.Shapes.1 o _) ?_
  rcases hf : fieldsR l.Shapes o with _ | fs
  · have hr : weighsR l.Shapes o res = 0 := by rw [weighsR, hf]
    simp -implicitDefEqProofs only [Option.isSome_none, cond_t, cond_f, tStr, fldV, GateLaw.vs, GateObject.vs, GateField.ts, tGateFieldS, tStrs, nat_nn, Nat.zero_le, List.getElem?_map, Option.map_some, List.length_map, S0, S1, S2, S3, S4, S5, S6, S7, S8, S9, S10, S11, S12, S13, S14, S15, S16, S17, opv, opvs, eget, env0, setD, lenStr, lenSl, isNilP, isNilS, putAt, if_true, if_false, reduceCtorEq, Nat.reduceLeDiff, Nat.reduceEqDiff, Nat.reduceSub, Nat.reduceMul, Nat.reduceAdd]
    first | exact fin0 (by rw [hr]) | exact fin (by rw [hr]) rfl
  · obtain hfo := fields_ok hf hl.Shapes
    have hfl := hfo.1.1
    simp -implicitDefEqProofs only [Option.isSome_some, cond_t, cond_f, tStr, fldV, GateLaw.vs, GateObject.vs, GateField.ts, tGateFieldS, tStrs, nat_nn, Nat.zero_le, List.getElem?_map, Option.map_some, List.length_map, S0, S1, S2, S3, S4, S5, S6, S7, S8, S9, S10, S11, S12, S13, S14, S15, S16, S17, opv, opvs, eget, env0, setD, lenStr, lenSl, isNilP, isNilS, putAt, if_true, if_false, reduceCtorEq, Nat.reduceLeDiff, Nat.reduceEqDiff, Nat.reduceSub, Nat.reduceMul, Nat.reduceAdd]
    rcases he : (res == []) with _ | _
    · simp -implicitDefEqProofs only [he, cond_t, cond_f, tStr, fldV, GateLaw.vs, GateObject.vs, GateField.ts, tGateFieldS, tStrs, nat_nn, Nat.zero_le, List.getElem?_map, Option.map_some, List.length_map, S0, S1, S2, S3, S4, S5, S6, S7, S8, S9, S10, S11, S12, S13, S14, S15, S16, S17, opv, opvs, eget, env0, setD, lenStr, lenSl, isNilP, isNilS, putAt, if_true, if_false, reduceCtorEq, Nat.reduceLeDiff, Nat.reduceEqDiff, Nat.reduceSub, Nat.reduceMul, Nat.reduceAdd]
      rcases hk : (res == o.Kind) with _ | _
      · have hres : weighsR l.Shapes o res = (fs.zip o.Values).foldl (weighStep res) 0 := by simp [weighsR, hf, he, hk]
        simp -implicitDefEqProofs only [hk, cond_t, cond_f, tStr, fldV, GateLaw.vs, GateObject.vs, GateField.ts, tGateFieldS, tStrs, nat_nn, Nat.zero_le, List.getElem?_map, Option.map_some, List.length_map, S0, S1, S2, S3, S4, S5, S6, S7, S8, S9, S10, S11, S12, S13, S14, S15, S16, S17, opv, opvs, eget, env0, setD, lenStr, lenSl, isNilP, isNilS, putAt, if_true, if_false, reduceCtorEq, Nat.reduceLeDiff, Nat.reduceEqDiff, Nat.reduceSub, Nat.reduceMul, Nat.reduceAdd]
        refine loop_p [9, 10, 2, 4, 7] [2, 4, 7] (fun k : Nat => [(9, .t (.int .i64 (wAcc res fs o.Values 0 k))), (10, .t (.int .i64 (k : Nat)))]) (fun k => k ≤ fs.length) (fun k => fs.length - k) 0 (by simp [wAcc]) (Nat.zero_le _) rfl ?_
        rintro k hk
        simp -implicitDefEqProofs only [keep, List.length_map, tStr, fldV, GateLaw.vs, GateObject.vs, GateField.ts, tGateFieldS, tStrs, nat_nn, Nat.zero_le, List.getElem?_map, Option.map_some, List.length_map, S0, S1, S2, S3, S4, S5, S6, S7, S8, S9, S10, S11, S12, S13, S14, S15, S16, S17, opv, opvs, eget, env0, setD, lenStr, lenSl, isNilP, isNilS, putAt, if_true, if_false, reduceCtorEq, Nat.reduceLeDiff, Nat.reduceEqDiff, Nat.reduceSub, Nat.reduceMul, Nat.reduceAdd]
        refine cond_split (fun h1 => ?_) (fun h1 => ?_)
        · obtain ⟨x, hx, hlt⟩ := at_of h1
          have hv : o.Values[k]? = some o.Values[k] := List.getElem?_eq_getElem (by omega)
          obtain ⟨v, hvd⟩ : ∃ v, v = o.Values[k] := ⟨_, rfl⟩
          rw [← hvd] at hv
          have hvl : v.length ≤ 1048576 := ho.Values.2 v (List.mem_of_getElem? hv)
          have more := i64_succ (show k < 4611686018427387904 by omega)
          have hst := wAcc_succ (res := res) (n := 0) hx hv
          have hb := wAcc_bnd (res := res) (fs := fs) (vs := o.Values) (n := 0) (k := k) (by omega) (by omega) (by omega)
          have hdb := dec_bnd v
          have wadd : IntKind.i64.wrap (wAcc res fs o.Values 0 k + decV v) = wAcc res fs o.Values 0 k + decV v := IntWalk.i64_in _ (by omega)
          have wadn : 0 < numV v → IntKind.i64.wrap (wAcc res fs o.Values 0 k + numV v) = wAcc res fs o.Values 0 k + decV v := fun h => by rw [IntWalk.i64_in _ (by omega)]; omega
          have wA : (x.Kind == 1) = true → (x.Weighs == res) = true → wAcc res fs o.Values 0 (k + 1) = wAcc res fs o.Values 0 k + decV v := fun h h' => by rw [hst]; simp [weighStep, h, h']
          have wB : (x.Kind == 1) = true → (x.Weighs == res) = true → decide (numV v > 0) = true → wAcc res fs o.Values 0 (k + 1) = IntKind.i64.wrap (wAcc res fs o.Values 0 k + numV v) := fun h h' h2 => by rw [wA h h', wadn (by simpa using h2)]
          have wC : ((x.Kind == 1) = false ∨ (x.Weighs == res) = false ∨ decide (numV v > 0) = false) → wAcc res fs o.Values 0 (k + 1) = wAcc res fs o.Values 0 k := fun h => by
            rw [hst, weighStep]
            rcases h with h | h | h
            · simp [h]
            · simp [h]
            · simp only [decide_eq_false_iff_not] at h
              split
              · simp only; omega
              · rfl
          clear h1 hh
          have hh : True := trivial
          simp -implicitDefEqProofs only [hx, hv, more, wadd, tStr, fldV, GateLaw.vs, GateObject.vs, GateField.ts, tGateFieldS, tStrs, nat_nn, Nat.zero_le, List.getElem?_map, Option.map_some, List.length_map, S0, S1, S2, S3, S4, S5, S6, S7, S8, S9, S10, S11, S12, S13, S14, S15, S16, S17, opv, opvs, eget, env0, setD, lenStr, lenSl, isNilP, isNilS, putAt, if_true, if_false, reduceCtorEq, Nat.reduceLeDiff, Nat.reduceEqDiff, Nat.reduceSub, Nat.reduceMul, Nat.reduceAdd]
          repeat' (first
            | ((with_reducible refine cond_known (fun h => ?_) (fun h => ?_)) <;> (replace hh := And.intro h hh; clear h; simp -implicitDefEqProofs only [hh, cond_t, cond_f, hx, hv, more, wadd, tStr, fldV, GateLaw.vs, GateObject.vs, GateField.ts, tGateFieldS, tStrs, nat_nn, Nat.zero_le, List.getElem?_map, Option.map_some, List.length_map, S0, S1, S2, S3, S4, S5, S6, S7, S8, S9, S10, S11, S12, S13, S14, S15, S16, S17, opv, opvs, eget, env0, setD, lenStr, lenSl, isNilP, isNilS, putAt, if_true, if_false, reduceCtorEq, Nat.reduceLeDiff, Nat.reduceEqDiff, Nat.reduceSub, Nat.reduceMul, Nat.reduceAdd]))
            | ((with_reducible refine call_pure (spec_l1Number v hvl _) ?_); simp -implicitDefEqProofs only [hh, cond_t, cond_f, hx, hv, more, wadd, tStr, fldV, GateLaw.vs, GateObject.vs, GateField.ts, tGateFieldS, tStrs, nat_nn, Nat.zero_le, List.getElem?_map, Option.map_some, List.length_map, S0, S1, S2, S3, S4, S5, S6, S7, S8, S9, S10, S11, S12, S13, S14, S15, S16, S17, opv, opvs, eget, env0, setD, lenStr, lenSl, isNilP, isNilS, putAt, if_true, if_false, reduceCtorEq, Nat.reduceLeDiff, Nat.reduceEqDiff, Nat.reduceSub, Nat.reduceMul, Nat.reduceAdd])
            | (first | exact lk_p0 (k + 1) (by simp) (by simp) (by omega) (by omega) (by rw [wB (by (try simp only [Known] at hh); grind) (by (try simp only [Known] at hh); grind) (by (try simp only [Known] at hh); grind)]; rfl) | exact lk_p (k + 1) (by simp) (by simp) hσ rfl (by omega) (by omega) (by simp [ltE, keep, eget, V.lt]) (by rw [wB (by (try simp only [Known] at hh); grind) (by (try simp only [Known] at hh); grind) (by (try simp only [Known] at hh); grind)]; rfl) | exact lk_pm (k + 1) (Nat.le_refl _) (by simp) hσ rfl rfl (by omega) (by omega) (by simp [ltE, keep, eget, V.lt]) (by rw [wB (by (try simp only [Known] at hh); grind) (by (try simp only [Known] at hh); grind) (by (try simp only [Known] at hh); grind)]; rfl))
            | (first | exact lk_p0 (k + 1) (by simp) (by simp) (by omega) (by omega) (by rw [wA (by (try simp only [Known] at hh); grind) (by (try simp only [Known] at hh); grind)]; rfl) | exact lk_p (k + 1) (by simp) (by simp) hσ rfl (by omega) (by omega) (by simp [ltE, keep, eget, V.lt]) (by rw [wA (by (try simp only [Known] at hh); grind) (by (try simp only [Known] at hh); grind)]; rfl) | exact lk_pm (k + 1) (Nat.le_refl _) (by simp) hσ rfl rfl (by omega) (by omega) (by simp [ltE, keep, eget, V.lt]) (by rw [wA (by (try simp only [Known] at hh); grind) (by (try simp only [Known] at hh); grind)]; rfl))
            | (first | exact lk_p0 (k + 1) (by simp) (by simp) (by omega) (by omega) (by rw [wC (by (try simp only [Known] at hh); grind)]; rfl) | exact lk_p (k + 1) (by simp) (by simp) hσ rfl (by omega) (by omega) (by simp [ltE, keep, eget, V.lt]) (by rw [wC (by (try simp only [Known] at hh); grind)]; rfl) | exact lk_pm (k + 1) (Nat.le_refl _) (by simp) hσ rfl rfl (by omega) (by omega) (by simp [ltE, keep, eget, V.lt]) (by rw [wC (by (try simp only [Known] at hh); grind)]; rfl)))
        · have hkk := end_of h1 hk
          subst hkk
          simp -implicitDefEqProofs only [S0, S1, S2, S3, S4, S5, S6, S7, S8, S9, S10, S11, S12, S13, S14, S15, S16, S17, opv, opvs, eget, env0, setD, lenStr, lenSl, isNilP, isNilS, putAt, if_true, if_false, reduceCtorEq, Nat.reduceLeDiff, Nat.reduceEqDiff, Nat.reduceSub, Nat.reduceMul, Nat.reduceAdd]
          first | exact fin0 (by rw [hres, wAcc_all (by first | exact hfo.2 | assumption)]) | exact fin (by rw [hres, wAcc_all (by first | exact hfo.2 | assumption)]) rfl
      · have hres : weighsR l.Shapes o res = (fs.zip o.Values).foldl (weighStep res) 1 := by simp [weighsR, hf, he, hk]
        simp -implicitDefEqProofs only [hk, cond_t, cond_f, tStr, fldV, GateLaw.vs, GateObject.vs, GateField.ts, tGateFieldS, tStrs, nat_nn, Nat.zero_le, List.getElem?_map, Option.map_some, List.length_map, S0, S1, S2, S3, S4, S5, S6, S7, S8, S9, S10, S11, S12, S13, S14, S15, S16, S17, opv, opvs, eget, env0, setD, lenStr, lenSl, isNilP, isNilS, putAt, if_true, if_false, reduceCtorEq, Nat.reduceLeDiff, Nat.reduceEqDiff, Nat.reduceSub, Nat.reduceMul, Nat.reduceAdd]
        refine loop_p [9, 10, 2, 4, 7] [2, 4, 7] (fun k : Nat => [(9, .t (.int .i64 (wAcc res fs o.Values 1 k))), (10, .t (.int .i64 (k : Nat)))]) (fun k => k ≤ fs.length) (fun k => fs.length - k) 0 (by simp [wAcc]) (Nat.zero_le _) rfl ?_
        rintro k hk
        simp -implicitDefEqProofs only [keep, List.length_map, tStr, fldV, GateLaw.vs, GateObject.vs, GateField.ts, tGateFieldS, tStrs, nat_nn, Nat.zero_le, List.getElem?_map, Option.map_some, List.length_map, S0, S1, S2, S3, S4, S5, S6, S7, S8, S9, S10, S11, S12, S13, S14, S15, S16, S17, opv, opvs, eget, env0, setD, lenStr, lenSl, isNilP, isNilS, putAt, if_true, if_false, reduceCtorEq, Nat.reduceLeDiff, Nat.reduceEqDiff, Nat.reduceSub, Nat.reduceMul, Nat.reduceAdd]
        refine cond_split (fun h1 => ?_) (fun h1 => ?_)
        · obtain ⟨x, hx, hlt⟩ := at_of h1
          have hv : o.Values[k]? = some o.Values[k] := List.getElem?_eq_getElem (by omega)
          obtain ⟨v, hvd⟩ : ∃ v, v = o.Values[k] := ⟨_, rfl⟩
          rw [← hvd] at hv
          have hvl : v.length ≤ 1048576 := ho.Values.2 v (List.mem_of_getElem? hv)
          have more := i64_succ (show k < 4611686018427387904 by omega)
          have hst := wAcc_succ (res := res) (n := 1) hx hv
          have hb := wAcc_bnd (res := res) (fs := fs) (vs := o.Values) (n := 1) (k := k) (by omega) (by omega) (by omega)
          have hdb := dec_bnd v
          have wadd : IntKind.i64.wrap (wAcc res fs o.Values 1 k + decV v) = wAcc res fs o.Values 1 k + decV v := IntWalk.i64_in _ (by omega)
          have wadn : 0 < numV v → IntKind.i64.wrap (wAcc res fs o.Values 1 k + numV v) = wAcc res fs o.Values 1 k + decV v := fun h => by rw [IntWalk.i64_in _ (by omega)]; omega
          have wA : (x.Kind == 1) = true → (x.Weighs == res) = true → wAcc res fs o.Values 1 (k + 1) = wAcc res fs o.Values 1 k + decV v := fun h h' => by rw [hst]; simp [weighStep, h, h']
          have wB : (x.Kind == 1) = true → (x.Weighs == res) = true → decide (numV v > 0) = true → wAcc res fs o.Values 1 (k + 1) = IntKind.i64.wrap (wAcc res fs o.Values 1 k + numV v) := fun h h' h2 => by rw [wA h h', wadn (by simpa using h2)]
          have wC : ((x.Kind == 1) = false ∨ (x.Weighs == res) = false ∨ decide (numV v > 0) = false) → wAcc res fs o.Values 1 (k + 1) = wAcc res fs o.Values 1 k := fun h => by
            rw [hst, weighStep]
            rcases h with h | h | h
            · simp [h]
            · simp [h]
            · simp only [decide_eq_false_iff_not] at h
              split
              · simp only; omega
              · rfl
          clear h1 hh
          have hh : True := trivial
          simp -implicitDefEqProofs only [hx, hv, more, wadd, tStr, fldV, GateLaw.vs, GateObject.vs, GateField.ts, tGateFieldS, tStrs, nat_nn, Nat.zero_le, List.getElem?_map, Option.map_some, List.length_map, S0, S1, S2, S3, S4, S5, S6, S7, S8, S9, S10, S11, S12, S13, S14, S15, S16, S17, opv, opvs, eget, env0, setD, lenStr, lenSl, isNilP, isNilS, putAt, if_true, if_false, reduceCtorEq, Nat.reduceLeDiff, Nat.reduceEqDiff, Nat.reduceSub, Nat.reduceMul, Nat.reduceAdd]
          repeat' (first
            | ((with_reducible refine cond_known (fun h => ?_) (fun h => ?_)) <;> (replace hh := And.intro h hh; clear h; simp -implicitDefEqProofs only [hh, cond_t, cond_f, hx, hv, more, wadd, tStr, fldV, GateLaw.vs, GateObject.vs, GateField.ts, tGateFieldS, tStrs, nat_nn, Nat.zero_le, List.getElem?_map, Option.map_some, List.length_map, S0, S1, S2, S3, S4, S5, S6, S7, S8, S9, S10, S11, S12, S13, S14, S15, S16, S17, opv, opvs, eget, env0, setD, lenStr, lenSl, isNilP, isNilS, putAt, if_true, if_false, reduceCtorEq, Nat.reduceLeDiff, Nat.reduceEqDiff, Nat.reduceSub, Nat.reduceMul, Nat.reduceAdd]))
            | ((with_reducible refine call_pure (spec_l1Number v hvl _) ?_); simp -implicitDefEqProofs only [hh, cond_t, cond_f, hx, hv, more, wadd, tStr, fldV, GateLaw.vs, GateObject.vs, GateField.ts, tGateFieldS, tStrs, nat_nn, Nat.zero_le, List.getElem?_map, Option.map_some, List.length_map, S0, S1, S2, S3, S4, S5, S6, S7, S8, S9, S10, S11, S12, S13, S14, S15, S16, S17, opv, opvs, eget, env0, setD, lenStr, lenSl, isNilP, isNilS, putAt, if_true, if_false, reduceCtorEq, Nat.reduceLeDiff, Nat.reduceEqDiff, Nat.reduceSub, Nat.reduceMul, Nat.reduceAdd])
            | (first | exact lk_p0 (k + 1) (by simp) (by simp) (by omega) (by omega) (by rw [wB (by (try simp only [Known] at hh); grind) (by (try simp only [Known] at hh); grind) (by (try simp only [Known] at hh); grind)]; rfl) | exact lk_p (k + 1) (by simp) (by simp) hσ rfl (by omega) (by omega) (by simp [ltE, keep, eget, V.lt]) (by rw [wB (by (try simp only [Known] at hh); grind) (by (try simp only [Known] at hh); grind) (by (try simp only [Known] at hh); grind)]; rfl) | exact lk_pm (k + 1) (Nat.le_refl _) (by simp) hσ rfl rfl (by omega) (by omega) (by simp [ltE, keep, eget, V.lt]) (by rw [wB (by (try simp only [Known] at hh); grind) (by (try simp only [Known] at hh); grind) (by (try simp only [Known] at hh); grind)]; rfl))
            | (first | exact lk_p0 (k + 1) (by simp) (by simp) (by omega) (by omega) (by rw [wA (by (try simp only [Known] at hh); grind) (by (try simp only [Known] at hh); grind)]; rfl) | exact lk_p (k + 1) (by simp) (by simp) hσ rfl (by omega) (by omega) (by simp [ltE, keep, eget, V.lt]) (by rw [wA (by (try simp only [Known] at hh); grind) (by (try simp only [Known] at hh); grind)]; rfl) | exact lk_pm (k + 1) (Nat.le_refl _) (by simp) hσ rfl rfl (by omega) (by omega) (by simp [ltE, keep, eget, V.lt]) (by rw [wA (by (try simp only [Known] at hh); grind) (by (try simp only [Known] at hh); grind)]; rfl))
            | (first | exact lk_p0 (k + 1) (by simp) (by simp) (by omega) (by omega) (by rw [wC (by (try simp only [Known] at hh); grind)]; rfl) | exact lk_p (k + 1) (by simp) (by simp) hσ rfl (by omega) (by omega) (by simp [ltE, keep, eget, V.lt]) (by rw [wC (by (try simp only [Known] at hh); grind)]; rfl) | exact lk_pm (k + 1) (Nat.le_refl _) (by simp) hσ rfl rfl (by omega) (by omega) (by simp [ltE, keep, eget, V.lt]) (by rw [wC (by (try simp only [Known] at hh); grind)]; rfl)))
        · have hkk := end_of h1 hk
          subst hkk
          simp -implicitDefEqProofs only [S0, S1, S2, S3, S4, S5, S6, S7, S8, S9, S10, S11, S12, S13, S14, S15, S16, S17, opv, opvs, eget, env0, setD, lenStr, lenSl, isNilP, isNilS, putAt, if_true, if_false, reduceCtorEq, Nat.reduceLeDiff, Nat.reduceEqDiff, Nat.reduceSub, Nat.reduceMul, Nat.reduceAdd]
          first | exact fin0 (by rw [hres, wAcc_all (by first | exact hfo.2 | assumption)]) | exact fin (by rw [hres, wAcc_all (by first | exact hfo.2 | assumption)]) rfl
    · have hr : weighsR l.Shapes o res = 0 := by simp [weighsR, hf, he]
      simp -implicitDefEqProofs only [he, cond_t, cond_f, tStr, fldV, GateLaw.vs, GateObject.vs, GateField.ts, tGateFieldS, tStrs, nat_nn, Nat.zero_le, List.getElem?_map, Option.map_some, List.length_map, S0, S1, S2, S3, S4, S5, S6, S7, S8, S9, S10, S11, S12, S13, S14, S15, S16, S17, opv, opvs, eget, env0, setD, lenStr, lenSl, isNilP, isNilS, putAt, if_true, if_false, reduceCtorEq, Nat.reduceLeDiff, Nat.reduceEqDiff, Nat.reduceSub, Nat.reduceMul, Nat.reduceAdd]
      first | exact fin0 (by rw [hr]) | exact fin (by rw [hr]) rfl

def c_impl_GateWeighs : C := (.seq (.ops [⟨(some 3), none, (.box (.t 0))⟩, ⟨(some 4), none, (.box (.t 1))⟩, ⟨(some 6), none, (.mv (.c (.t (.int .i64 0))))⟩]) (.seq (.ops [⟨(some 15), none, (.fieldAddr 0 (.t 3))⟩, ⟨(some 16), none, (.load none (.t 15))⟩, ⟨(some 17), none, (.load (some 7) (.t 4))⟩, ⟨(some 18), none, (.call (.c (.fn (.func 104) [])) [(.t 16), (.t 17)])⟩, ⟨(some 14), none, (.mv (.t 18))⟩, ⟨(some 19), none, (.extract (.t 14) 0)⟩, ⟨(some 20), none, (.extract (.t 14) 1)⟩, ⟨(some 7), none, (.mv (.t 19))⟩, ⟨(some 8), none, (.mv (.t 20))⟩]) (.seq (.seq (.ops [⟨(some 21), none, (.mv (.t 8))⟩, ⟨(some 22), none, (.un .not (.t 21))⟩, ⟨(some 23), none, (.mv (.t 22))⟩, ⟨(some 24), (some ⟨23, false⟩), (.mv (.t 2))⟩, ⟨(some 25), (some ⟨23, false⟩), (.bin .eql (.t 24) (.c (.t (.str []))))⟩, ⟨(some 26), none, (.pick (.t 23) (.c (.t (.bool true))) (.t 25))⟩]) (.cond (.t 26) (.seq (.ops [⟨(some 6), none, (.mv (.c (.t (.int .i64 0))))⟩]) .ret) .skip)) (.seq (.ops [⟨(some 9), none, (.mv (.c (.t (.int .i64 0))))⟩]) (.seq (.seq (.ops [⟨(some 27), none, (.mv (.t 2))⟩, ⟨(some 28), none, (.fieldAddr 0 (.t 4))⟩, ⟨(some 29), none, (.load none (.t 28))⟩, ⟨(some 30), none, (.bin .eql (.t 27) (.t 29))⟩]) (.cond (.t 30) (.ops [⟨(some 9), none, (.mv (.c (.t (.int .i64 1))))⟩]) .skip)) (.seq (.seq (.ops [⟨(some 31), none, (.mv (.t 7))⟩, ⟨(some 32), none, (.len false (.t 31))⟩, ⟨(some 33), none, (.mv (.c (.t (.int .i64 0))))⟩]) (.block 0 (.loop (.seq (.ops [⟨(some 34), none, (.bin .lss (.t 33) (.t 32))⟩]) (.seq (.cond (.t 34) .skip (.exit 0)) (.seq (.block 1 (.seq (.ops [⟨(some 35), none, (.mv (.t 33))⟩, ⟨(some 36), none, (.indexAddr 11 (.t 31) (.t 33))⟩, ⟨(some 37), none, (.load (some 11) (.t 36))⟩, ⟨(some 11), none, (.new [(.t (.str [])), (.t (.int .i64 0)), (.t (.int .i64 0)), (.t (.int .i64 0)), .nils, (.t (.str [])), (.t (.int .i64 0)), (.t (.bool false)), (.t (.bool false)), (.t (.str [])), (.t (.str []))])⟩, ⟨(some 10), none, (.mv (.t 35))⟩, ⟨none, none, (.store 11 (.t 11) (.t 37))⟩]) (.seq (.seq (.ops [⟨(some 38), none, (.fieldAddr 1 (.t 11))⟩, ⟨(some 39), none, (.load none (.t 38))⟩, ⟨(some 40), none, (.bin .neq (.t 39) (.c (.t (.int .i64 1))))⟩, ⟨(some 41), none, (.mv (.t 40))⟩, ⟨(some 42), (some ⟨41, false⟩), (.fieldAddr 10 (.t 11))⟩, ⟨(some 43), (some ⟨41, false⟩), (.load none (.t 42))⟩, ⟨(some 44), (some ⟨41, false⟩), (.mv (.t 2))⟩, ⟨(some 45), (some ⟨41, false⟩), (.bin .neq (.t 43) (.t 44))⟩, ⟨(some 46), none, (.pick (.t 41) (.c (.t (.bool true))) (.t 45))⟩]) (.cond (.t 46) (.exit 1) .skip)) (.seq (.ops [⟨(some 48), none, (.fieldAddr 3 (.t 4))⟩, ⟨(some 49), none, (.load none (.t 48))⟩, ⟨(some 50), none, (.mv (.t 10))⟩, ⟨(some 51), none, (.indexAddr 1 (.t 49) (.t 50))⟩, ⟨(some 52), none, (.load none (.t 51))⟩, ⟨(some 53), none, (.call (.c (.fn (.func 105) [])) [(.t 52)])⟩, ⟨(some 47), none, (.mv (.t 53))⟩, ⟨(some 54), none, (.extract (.t 47) 0)⟩, ⟨(some 55), none, (.extract (.t 47) 1)⟩, ⟨(some 12), none, (.mv (.t 54))⟩, ⟨(some 13), none, (.mv (.t 55))⟩]) (.ops [⟨(some 56), none, (.mv (.t 9))⟩, ⟨(some 57), none, (.mv (.t 12))⟩, ⟨(some 58), none, (.bin .add (.t 56) (.t 57))⟩, ⟨(some 9), none, (.mv (.t 58))⟩]))))) (.ops [⟨(some 59), none, (.bin .add (.t 33) (.c (.t (.int .i64 1))))⟩, ⟨(some 33), none, (.mv (.t 59))⟩]))))))) (.seq (.ops [⟨(some 60), none, (.mv (.t 9))⟩, ⟨(some 6), none, (.mv (.t 60))⟩]) .ret)))))))
theorem k_impl_GateWeighs : comp Try.prog 61 (Try.f48.body.getD .skip) = some c_impl_GateWeighs := by kernel_rfl

theorem impl_GateWeighs (l : GateLaw) (hl : l.Ok) (o : GateObject) (ho : o.Ok) (res : List UInt8) (hs : res.length ≤ 1048576) (σ : Store) : ACalls Try.prog 48 [.agg (l.vs), .agg (o.vs), .t (.str (res))] σ fun rr σ' => rr = .t (.int .i64 (weighsR l.Shapes o res)) ∧ σ' = σ := by
  refine acalls_of Try.func48 (by decide +kernel) (code := Try.f48.body.getD .skip) (n := 61) (c := c_impl_GateWeighs) (rs := [(.tmp 6)]) rfl rfl k_impl_GateWeighs (by kernel_rfl) (by simp) (fun hσ => ?_)
  have hh : True := trivial
  have fin : ∀ {u : V} {τ : Store}, u = .t (.int .i64 (weighsR l.Shapes o res)) → u.lt σ.length = true → retV σ.length (fun rr σ' => rr = .t (.int .i64 (weighsR l.Shapes o res)) ∧ σ' = σ) (σ ++ τ) (some [u]) := fun h h2 => ret_same rfl hσ h2 ⟨h, rfl⟩
  have fin0 : ∀ {u : V}, u = .t (.int .i64 (weighsR l.Shapes o res)) → retV σ.length (fun rr σ' => rr = .t (.int .i64 (weighsR l.Shapes o res)) ∧ σ' = σ) σ (some [u]) := fun h => ret_same0 rfl ⟨h, rfl⟩
  simp -implicitDefEqProofs only [c_impl_GateWeighs, tStr, fldV, GateLaw.vs, GateObject.vs, GateField.ts, tGateFieldS, tStrs, nat_nn, Nat.zero_le, List.getElem?_map, Option.map_some, List.length_map, S0, S1, S2, S3, S4, S5, S6, S7, S8, S9, S10, S11, S12, S13, S14, S15, S16, S17, opv, opvs, eget, env0, setD, lenStr, lenSl, isNilP, isNilS, putAt, if_true, if_false, reduceCtorEq, Nat.reduceLeDiff, Nat.reduceEqDiff, Nat.reduceSub, Nat.reduceMul, Nat.reduceAdd]
  refine call_pure (impl_fieldsOf l.Shapes hl.Shapes.1 o _) ?_
  rcases hf : fieldsR l.Shapes o with _ | fs
  · have hr : weighsR l.Shapes o res = 0 := by rw [weighsR, hf]
    simp -implicitDefEqProofs only [Option.isSome_none, cond_t, cond_f, tStr, fldV, GateLaw.vs, GateObject.vs, GateField.ts, tGateFieldS, tStrs, nat_nn, Nat.zero_le, List.getElem?_map, Option.map_some, List.length_map, S0, S1, S2, S3, S4, S5, S6, S7, S8, S9, S10, S11, S12, S13, S14, S15, S16, S17, opv, opvs, eget, env0, setD, lenStr, lenSl, isNilP, isNilS, putAt, if_true, if_false, reduceCtorEq, Nat.reduceLeDiff, Nat.reduceEqDiff, Nat.reduceSub, Nat.reduceMul, Nat.reduceAdd]
    first | exact fin0 (by rw [hr]) | exact fin (by rw [hr]) rfl
  · obtain hfo := fields_ok hf hl.Shapes
    have hfl := hfo.1.1
    simp -implicitDefEqProofs only [Option.isSome_some, cond_t, cond_f, tStr, fldV, GateLaw.vs, GateObject.vs, GateField.ts, tGateFieldS, tStrs, nat_nn, Nat.zero_le, List.getElem?_map, Option.map_some, List.length_map, S0, S1, S2, S3, S4, S5, S6, S7, S8, S9, S10, S11, S12, S13, S14, S15, S16, S17, opv, opvs, eget, env0, setD, lenStr, lenSl, isNilP, isNilS, putAt, if_true, if_false, reduceCtorEq, Nat.reduceLeDiff, Nat.reduceEqDiff, Nat.reduceSub, Nat.reduceMul, Nat.reduceAdd]
    rcases he : (res == []) with _ | _
    · simp -implicitDefEqProofs only [he, cond_t, cond_f, tStr, fldV, GateLaw.vs, GateObject.vs, GateField.ts, tGateFieldS, tStrs, nat_nn, Nat.zero_le, List.getElem?_map, Option.map_some, List.length_map, S0, S1, S2, S3, S4, S5, S6, S7, S8, S9, S10, S11, S12, S13, S14, S15, S16, S17, opv, opvs, eget, env0, setD, lenStr, lenSl, isNilP, isNilS, putAt, if_true, if_false, reduceCtorEq, Nat.reduceLeDiff, Nat.reduceEqDiff, Nat.reduceSub, Nat.reduceMul, Nat.reduceAdd]
      rcases hk : (res == o.Kind) with _ | _
      · have hres : weighsR l.Shapes o res = (fs.zip o.Values).foldl (weighStep res) 0 := by simp [weighsR, hf, he, hk]
        simp -implicitDefEqProofs only [hk, cond_t, cond_f, tStr, fldV, GateLaw.vs, GateObject.vs, GateField.ts, tGateFieldS, tStrs, nat_nn, Nat.zero_le, List.getElem?_map, Option.map_some, List.length_map, S0, S1, S2, S3, S4, S5, S6, S7, S8, S9, S10, S11, S12, S13, S14, S15, S16, S17, opv, opvs, eget, env0, setD, lenStr, lenSl, isNilP, isNilS, putAt, if_true, if_false, reduceCtorEq, Nat.reduceLeDiff, Nat.reduceEqDiff, Nat.reduceSub, Nat.reduceMul, Nat.reduceAdd]
        refine loop_p [9, 33, 2, 4, 31, 32] [2, 4, 31, 32] (fun k : Nat => [(9, .t (.int .i64 (wAcc res fs o.Values 0 k))), (33, .t (.int .i64 (k : Nat)))]) (fun k => k ≤ fs.length) (fun k => fs.length - k) 0 (by simp [wAcc]) (Nat.zero_le _) rfl ?_
        rintro k hk
        simp -implicitDefEqProofs only [keep, List.length_map, tStr, fldV, GateLaw.vs, GateObject.vs, GateField.ts, tGateFieldS, tStrs, nat_nn, Nat.zero_le, List.getElem?_map, Option.map_some, List.length_map, S0, S1, S2, S3, S4, S5, S6, S7, S8, S9, S10, S11, S12, S13, S14, S15, S16, S17, opv, opvs, eget, env0, setD, lenStr, lenSl, isNilP, isNilS, putAt, if_true, if_false, reduceCtorEq, Nat.reduceLeDiff, Nat.reduceEqDiff, Nat.reduceSub, Nat.reduceMul, Nat.reduceAdd]
        refine cond_split (fun h1 => ?_) (fun h1 => ?_)
        · obtain ⟨x, hx, hlt⟩ := at_of h1
          have hv : o.Values[k]? = some o.Values[k] := List.getElem?_eq_getElem (by omega)
          obtain ⟨v, hvd⟩ : ∃ v, v = o.Values[k] := ⟨_, rfl⟩
          rw [← hvd] at hv
          have hvl : v.length ≤ 1048576 := ho.Values.2 v (List.mem_of_getElem? hv)
          have more := i64_succ (show k < 4611686018427387904 by omega)
          have hst := wAcc_succ (res := res) (n := 0) hx hv
          have hb := wAcc_bnd (res := res) (fs := fs) (vs := o.Values) (n := 0) (k := k) (by omega) (by omega) (by omega)
          have hdb := dec_bnd v
          have wadd : IntKind.i64.wrap (wAcc res fs o.Values 0 k + decV v) = wAcc res fs o.Values 0 k + decV v := IntWalk.i64_in _ (by omega)
          have wadn : 0 < numV v → IntKind.i64.wrap (wAcc res fs o.Values 0 k + numV v) = wAcc res fs o.Values 0 k + decV v := fun h => by rw [IntWalk.i64_in _ (by omega)]; omega
          have wA : (x.Kind == 1) = true → (x.Weighs == res) = true → wAcc res fs o.Values 0 (k + 1) = wAcc res fs o.Values 0 k + decV v := fun h h' => by rw [hst]; simp [weighStep, h, h']
          have wB : (x.Kind == 1) = true → (x.Weighs == res) = true → decide (numV v > 0) = true → wAcc res fs o.Values 0 (k + 1) = IntKind.i64.wrap (wAcc res fs o.Values 0 k + numV v) := fun h h' h2 => by rw [wA h h', wadn (by simpa using h2)]
          have wC : ((x.Kind == 1) = false ∨ (x.Weighs == res) = false ∨ decide (numV v > 0) = false) → wAcc res fs o.Values 0 (k + 1) = wAcc res fs o.Values 0 k := fun h => by
            rw [hst, weighStep]
            rcases h with h | h | h
            · simp [h]
            · simp [h]
            · simp only [decide_eq_false_iff_not] at h
              split
              · simp only; omega
              · rfl
          clear h1 hh
          have hh : True := trivial
          simp -implicitDefEqProofs only [hx, hv, more, wadd, tStr, fldV, GateLaw.vs, GateObject.vs, GateField.ts, tGateFieldS, tStrs, nat_nn, Nat.zero_le, List.getElem?_map, Option.map_some, List.length_map, S0, S1, S2, S3, S4, S5, S6, S7, S8, S9, S10, S11, S12, S13, S14, S15, S16, S17, opv, opvs, eget, env0, setD, lenStr, lenSl, isNilP, isNilS, putAt, if_true, if_false, reduceCtorEq, Nat.reduceLeDiff, Nat.reduceEqDiff, Nat.reduceSub, Nat.reduceMul, Nat.reduceAdd]
          repeat' (first
            | ((with_reducible refine cond_known (fun h => ?_) (fun h => ?_)) <;> (replace hh := And.intro h hh; clear h; simp -implicitDefEqProofs only [hh, cond_t, cond_f, hx, hv, more, wadd, tStr, fldV, GateLaw.vs, GateObject.vs, GateField.ts, tGateFieldS, tStrs, nat_nn, Nat.zero_le, List.getElem?_map, Option.map_some, List.length_map, S0, S1, S2, S3, S4, S5, S6, S7, S8, S9, S10, S11, S12, S13, S14, S15, S16, S17, opv, opvs, eget, env0, setD, lenStr, lenSl, isNilP, isNilS, putAt, if_true, if_false, reduceCtorEq, Nat.reduceLeDiff, Nat.reduceEqDiff, Nat.reduceSub, Nat.reduceMul, Nat.reduceAdd]))
            | ((with_reducible refine call_pure (impl_decimal v hvl _) ?_); simp -implicitDefEqProofs only [hh, cond_t, cond_f, hx, hv, more, wadd, tStr, fldV, GateLaw.vs, GateObject.vs, GateField.ts, tGateFieldS, tStrs, nat_nn, Nat.zero_le, List.getElem?_map, Option.map_some, List.length_map, S0, S1, S2, S3, S4, S5, S6, S7, S8, S9, S10, S11, S12, S13, S14, S15, S16, S17, opv, opvs, eget, env0, setD, lenStr, lenSl, isNilP, isNilS, putAt, if_true, if_false, reduceCtorEq, Nat.reduceLeDiff, Nat.reduceEqDiff, Nat.reduceSub, Nat.reduceMul, Nat.reduceAdd])
            | (first | exact lk_p0 (k + 1) (by simp) (by simp) (by omega) (by omega) (by rw [wB (by (try simp only [Known] at hh); grind) (by (try simp only [Known] at hh); grind) (by (try simp only [Known] at hh); grind)]; rfl) | exact lk_p (k + 1) (by simp) (by simp) hσ rfl (by omega) (by omega) (by simp [ltE, keep, eget, V.lt]) (by rw [wB (by (try simp only [Known] at hh); grind) (by (try simp only [Known] at hh); grind) (by (try simp only [Known] at hh); grind)]; rfl) | exact lk_pm (k + 1) (Nat.le_refl _) (by simp) hσ rfl rfl (by omega) (by omega) (by simp [ltE, keep, eget, V.lt]) (by rw [wB (by (try simp only [Known] at hh); grind) (by (try simp only [Known] at hh); grind) (by (try simp only [Known] at hh); grind)]; rfl))
            | (first | exact lk_p0 (k + 1) (by simp) (by simp) (by omega) (by omega) (by rw [wA (by (try simp only [Known] at hh); grind) (by (try simp only [Known] at hh); grind)]; rfl) | exact lk_p (k + 1) (by simp) (by simp) hσ rfl (by omega) (by omega) (by simp [ltE, keep, eget, V.lt]) (by rw [wA (by (try simp only [Known] at hh); grind) (by (try simp only [Known] at hh); grind)]; rfl) | exact lk_pm (k + 1) (Nat.le_refl _) (by simp) hσ rfl rfl (by omega) (by omega) (by simp [ltE, keep, eget, V.lt]) (by rw [wA (by (try simp only [Known] at hh); grind) (by (try simp only [Known] at hh); grind)]; rfl))
            | (first | exact lk_p0 (k + 1) (by simp) (by simp) (by omega) (by omega) (by rw [wC (by (try simp only [Known] at hh); grind)]; rfl) | exact lk_p (k + 1) (by simp) (by simp) hσ rfl (by omega) (by omega) (by simp [ltE, keep, eget, V.lt]) (by rw [wC (by (try simp only [Known] at hh); grind)]; rfl) | exact lk_pm (k + 1) (Nat.le_refl _) (by simp) hσ rfl rfl (by omega) (by omega) (by simp [ltE, keep, eget, V.lt]) (by rw [wC (by (try simp only [Known] at hh); grind)]; rfl)))
        · have hkk := end_of h1 hk
          subst hkk
          simp -implicitDefEqProofs only [S0, S1, S2, S3, S4, S5, S6, S7, S8, S9, S10, S11, S12, S13, S14, S15, S16, S17, opv, opvs, eget, env0, setD, lenStr, lenSl, isNilP, isNilS, putAt, if_true, if_false, reduceCtorEq, Nat.reduceLeDiff, Nat.reduceEqDiff, Nat.reduceSub, Nat.reduceMul, Nat.reduceAdd]
          first | exact fin0 (by rw [hres, wAcc_all (by first | exact hfo.2 | assumption)]) | exact fin (by rw [hres, wAcc_all (by first | exact hfo.2 | assumption)]) rfl
      · have hres : weighsR l.Shapes o res = (fs.zip o.Values).foldl (weighStep res) 1 := by simp [weighsR, hf, he, hk]
        simp -implicitDefEqProofs only [hk, cond_t, cond_f, tStr, fldV, GateLaw.vs, GateObject.vs, GateField.ts, tGateFieldS, tStrs, nat_nn, Nat.zero_le, List.getElem?_map, Option.map_some, List.length_map, S0, S1, S2, S3, S4, S5, S6, S7, S8, S9, S10, S11, S12, S13, S14, S15, S16, S17, opv, opvs, eget, env0, setD, lenStr, lenSl, isNilP, isNilS, putAt, if_true, if_false, reduceCtorEq, Nat.reduceLeDiff, Nat.reduceEqDiff, Nat.reduceSub, Nat.reduceMul, Nat.reduceAdd]
        refine loop_p [9, 33, 2, 4, 31, 32] [2, 4, 31, 32] (fun k : Nat => [(9, .t (.int .i64 (wAcc res fs o.Values 1 k))), (33, .t (.int .i64 (k : Nat)))]) (fun k => k ≤ fs.length) (fun k => fs.length - k) 0 (by simp [wAcc]) (Nat.zero_le _) rfl ?_
        rintro k hk
        simp -implicitDefEqProofs only [keep, List.length_map, tStr, fldV, GateLaw.vs, GateObject.vs, GateField.ts, tGateFieldS, tStrs, nat_nn, Nat.zero_le, List.getElem?_map, Option.map_some, List.length_map, S0, S1, S2, S3, S4, S5, S6, S7, S8, S9, S10, S11, S12, S13, S14, S15, S16, S17, opv, opvs, eget, env0, setD, lenStr, lenSl, isNilP, isNilS, putAt, if_true, if_false, reduceCtorEq, Nat.reduceLeDiff, Nat.reduceEqDiff, Nat.reduceSub, Nat.reduceMul, Nat.reduceAdd]
        refine cond_split (fun h1 => ?_) (fun h1 => ?_)
        · obtain ⟨x, hx, hlt⟩ := at_of h1
          have hv : o.Values[k]? = some o.Values[k] := List.getElem?_eq_getElem (by omega)
          obtain ⟨v, hvd⟩ : ∃ v, v = o.Values[k] := ⟨_, rfl⟩
          rw [← hvd] at hv
          have hvl : v.length ≤ 1048576 := ho.Values.2 v (List.mem_of_getElem? hv)
          have more := i64_succ (show k < 4611686018427387904 by omega)
          have hst := wAcc_succ (res := res) (n := 1) hx hv
          have hb := wAcc_bnd (res := res) (fs := fs) (vs := o.Values) (n := 1) (k := k) (by omega) (by omega) (by omega)
          have hdb := dec_bnd v
          have wadd : IntKind.i64.wrap (wAcc res fs o.Values 1 k + decV v) = wAcc res fs o.Values 1 k + decV v := IntWalk.i64_in _ (by omega)
          have wadn : 0 < numV v → IntKind.i64.wrap (wAcc res fs o.Values 1 k + numV v) = wAcc res fs o.Values 1 k + decV v := fun h => by rw [IntWalk.i64_in _ (by omega)]; omega
          have wA : (x.Kind == 1) = true → (x.Weighs == res) = true → wAcc res fs o.Values 1 (k + 1) = wAcc res fs o.Values 1 k + decV v := fun h h' => by rw [hst]; simp [weighStep, h, h']
          have wB : (x.Kind == 1) = true → (x.Weighs == res) = true → decide (numV v > 0) = true → wAcc res fs o.Values 1 (k + 1) = IntKind.i64.wrap (wAcc res fs o.Values 1 k + numV v) := fun h h' h2 => by rw [wA h h', wadn (by simpa using h2)]
          have wC : ((x.Kind == 1) = false ∨ (x.Weighs == res) = false ∨ decide (numV v > 0) = false) → wAcc res fs o.Values 1 (k + 1) = wAcc res fs o.Values 1 k := fun h => by
            rw [hst, weighStep]
            rcases h with h | h | h
            · simp [h]
            · simp [h]
            · simp only [decide_eq_false_iff_not] at h
              split
              · simp only; omega
              · rfl
          clear h1 hh
          have hh : True := trivial
          simp -implicitDefEqProofs only [hx, hv, more, wadd, tStr, fldV, GateLaw.vs, GateObject.vs, GateField.ts, tGateFieldS, tStrs, nat_nn, Nat.zero_le, List.getElem?_map, Option.map_some, List.length_map, S0, S1, S2, S3, S4, S5, S6, S7, S8, S9, S10, S11, S12, S13, S14, S15, S16, S17, opv, opvs, eget, env0, setD, lenStr, lenSl, isNilP, isNilS, putAt, if_true, if_false, reduceCtorEq, Nat.reduceLeDiff, Nat.reduceEqDiff, Nat.reduceSub, Nat.reduceMul, Nat.reduceAdd]
          repeat' (first
            | ((with_reducible refine cond_known (fun h => ?_) (fun h => ?_)) <;> (replace hh := And.intro h hh; clear h; simp -implicitDefEqProofs only [hh, cond_t, cond_f, hx, hv, more, wadd, tStr, fldV, GateLaw.vs, GateObject.vs, GateField.ts, tGateFieldS, tStrs, nat_nn, Nat.zero_le, List.getElem?_map, Option.map_some, List.length_map, S0, S1, S2, S3, S4, S5, S6, S7, S8, S9, S10, S11, S12, S13, S14, S15, S16, S17, opv, opvs, eget, env0, setD, lenStr, lenSl, isNilP, isNilS, putAt, if_true, if_false, reduceCtorEq, Nat.reduceLeDiff, Nat.reduceEqDiff, Nat.reduceSub, Nat.reduceMul, Nat.reduceAdd]))
            | ((with_reducible refine call_pure (impl_decimal v hvl _) ?_); simp -implicitDefEqProofs only [hh, cond_t, cond_f, hx, hv, more, wadd, tStr, fldV, GateLaw.vs, GateObject.vs, GateField.ts, tGateFieldS, tStrs, nat_nn, Nat.zero_le, List.getElem?_map, Option.map_some, List.length_map, S0, S1, S2, S3, S4, S5, S6, S7, S8, S9, S10, S11, S12, S13, S14, S15, S16, S17, opv, opvs, eget, env0, setD, lenStr, lenSl, isNilP, isNilS, putAt, if_true, if_false, reduceCtorEq, Nat.reduceLeDiff, Nat.reduceEqDiff, Nat.reduceSub, Nat.reduceMul, Nat.reduceAdd])
            | (first | exact lk_p0 (k + 1) (by simp) (by simp) (by omega) (by omega) (by rw [wB (by (try simp only [Known] at hh); grind) (by (try simp only [Known] at hh); grind) (by (try simp only [Known] at hh); grind)]; rfl) | exact lk_p (k + 1) (by simp) (by simp) hσ rfl (by omega) (by omega) (by simp [ltE, keep, eget, V.lt]) (by rw [wB (by (try simp only [Known] at hh); grind) (by (try simp only [Known] at hh); grind) (by (try simp only [Known] at hh); grind)]; rfl) | exact lk_pm (k + 1) (Nat.le_refl _) (by simp) hσ rfl rfl (by omega) (by omega) (by simp [ltE, keep, eget, V.lt]) (by rw [wB (by (try simp only [Known] at hh); grind) (by (try simp only [Known] at hh); grind) (by (try simp only [Known] at hh); grind)]; rfl))
            | (first | exact lk_p0 (k + 1) (by simp) (by simp) (by omega) (by omega) (by rw [wA (by (try simp only [Known] at hh); grind) (by (try simp only [Known] at hh); grind)]; rfl) | exact lk_p (k + 1) (by simp) (by simp) hσ rfl (by omega) (by omega) (by simp [ltE, keep, eget, V.lt]) (by rw [wA (by (try simp only [Known] at hh); grind) (by (try simp only [Known] at hh); grind)]; rfl) | exact lk_pm (k + 1) (Nat.le_refl _) (by simp) hσ rfl rfl (by omega) (by omega) (by simp [ltE, keep, eget, V.lt]) (by rw [wA (by (try simp only [Known] at hh); grind) (by (try simp only [Known] at hh); grind)]; rfl))
            | (first | exact lk_p0 (k + 1) (by simp) (by simp) (by omega) (by omega) (by rw [wC (by (try simp only [Known] at hh); grind)]; rfl) | exact lk_p (k + 1) (by simp) (by simp) hσ rfl (by omega) (by omega) (by simp [ltE, keep, eget, V.lt]) (by rw [wC (by (try simp only [Known] at hh); grind)]; rfl) | exact lk_pm (k + 1) (Nat.le_refl _) (by simp) hσ rfl rfl (by omega) (by omega) (by simp [ltE, keep, eget, V.lt]) (by rw [wC (by (try simp only [Known] at hh); grind)]; rfl)))
        · have hkk := end_of h1 hk
          subst hkk
          simp -implicitDefEqProofs only [S0, S1, S2, S3, S4, S5, S6, S7, S8, S9, S10, S11, S12, S13, S14, S15, S16, S17, opv, opvs, eget, env0, setD, lenStr, lenSl, isNilP, isNilS, putAt, if_true, if_false, reduceCtorEq, Nat.reduceLeDiff, Nat.reduceEqDiff, Nat.reduceSub, Nat.reduceMul, Nat.reduceAdd]
          first | exact fin0 (by rw [hres, wAcc_all (by first | exact hfo.2 | assumption)]) | exact fin (by rw [hres, wAcc_all (by first | exact hfo.2 | assumption)]) rfl
    · have hr : weighsR l.Shapes o res = 0 := by simp [weighsR, hf, he]
      simp -implicitDefEqProofs only [he, cond_t, cond_f, tStr, fldV, GateLaw.vs, GateObject.vs, GateField.ts, tGateFieldS, tStrs, nat_nn, Nat.zero_le, List.getElem?_map, Option.map_some, List.length_map, S0, S1, S2, S3, S4, S5, S6, S7, S8, S9, S10, S11, S12, S13, S14, S15, S16, S17, opv, opvs, eget, env0, setD, lenStr, lenSl, isNilP, isNilS, putAt, if_true, if_false, reduceCtorEq, Nat.reduceLeDiff, Nat.reduceEqDiff, Nat.reduceSub, Nat.reduceMul, Nat.reduceAdd]
      first | exact fin0 (by rw [hr]) | exact fin (by rw [hr]) rfl

end Go.Proofs.Ytgdmgoidfglobaa.W

end


section
open Go Go.Ab
set_option maxHeartbeats 2000000
namespace Go.Proofs.Ytgdmgoidfglobaa.W
def usedStep (l : GateLaw) (team res : List UInt8) (n : Int) (o : GateObject) : Int := if under l.Teams team 4 o.Team = true then IntKind.i64.wrap (n + weighsR l.Shapes o res) else n
def usedR (l : GateLaw) (b : GateBook) (team res : List UInt8) : Int := b.Objects.foldl (usedStep l team res) 0

def c_spec_GateUsed : C := (.seq (.ops [⟨(some 4), none, (.box (.t 0))⟩, ⟨(some 5), none, (.box (.t 1))⟩, ⟨(some 8), none, (.mv (.c (.t (.int .i64 0))))⟩]) (.seq (.ops [⟨(some 9), none, (.mv (.c (.t (.int .i64 0))))⟩]) (.seq (.seq (.ops [⟨(some 10), none, (.mv (.c (.t (.int .i64 0))))⟩]) (.block 0 (.loop (.seq (.seq (.ops [⟨(some 11), none, (.mv (.t 10))⟩, ⟨(some 12), none, (.fieldAddr 3 (.t 5))⟩, ⟨(some 13), none, (.load none (.t 12))⟩, ⟨(some 14), none, (.len false (.t 13))⟩, ⟨(some 15), none, (.bin .lss (.t 11) (.t 14))⟩]) (.cond (.t 15) .skip (.exit 0))) (.seq (.block 1 (.seq (.drawn [(.mk 0 false ⟨(some 18), none, (.fieldAddr 2 (.t 4))⟩ []), (.mk 1 false ⟨(some 19), none, (.load none (.t 18))⟩ []), (.mk 2 false ⟨(some 20), none, (.fieldAddr 3 (.t 5))⟩ []), (.mk 3 false ⟨(some 21), none, (.load none (.t 20))⟩ []), (.mk 4 false ⟨(some 22), none, (.mv (.t 10))⟩ []), (.mk 5 false ⟨(some 23), none, (.indexAddr 7 (.t 21) (.t 22))⟩ []), (.mk 6 false ⟨(some 24), none, (.fieldAddr 2 (.t 23))⟩ []), (.mk 7 false ⟨(some 25), none, (.load none (.t 24))⟩ []), (.mk 8 false ⟨(some 26), none, (.mv (.t 2))⟩ []), (.mk 9 false ⟨(some 27), none, (.call (.c (.fn (.func 14) [])) [(.t 19), (.t 25), (.t 26)])⟩ [])]) (.cond (.t 27) (.drawn [(.mk 0 false ⟨(some 28), none, (.mv (.t 9))⟩ []), (.mk 1 false ⟨(some 29), none, (.load (some 3) (.t 4))⟩ []), (.mk 2 false ⟨(some 30), none, (.fieldAddr 3 (.t 5))⟩ []), (.mk 3 false ⟨(some 31), none, (.load none (.t 30))⟩ []), (.mk 4 false ⟨(some 32), none, (.mv (.t 10))⟩ []), (.mk 5 false ⟨(some 33), none, (.indexAddr 7 (.t 31) (.t 32))⟩ []), (.mk 6 false ⟨(some 34), none, (.load (some 7) (.t 33))⟩ []), (.mk 7 false ⟨(some 35), none, (.mv (.t 3))⟩ []), (.mk 8 false ⟨(some 36), none, (.call (.c (.fn (.func 46) [])) [(.t 29), (.t 34), (.t 35)])⟩ []), (.mk 9 false ⟨(some 37), none, (.bin .add (.t 28) (.t 36))⟩ []), (.mk 10 true ⟨(some 9), none, (.mv (.t 37))⟩ [])]) .skip))) (.ops [⟨(some 16), none, (.mv (.t 10))⟩, ⟨(some 17), none, (.bin .add (.t 16) (.c (.t (.int .i64 1))))⟩, ⟨(some 10), none, (.mv (.t 17))⟩])))))) (.seq (.ops [⟨(some 38), none, (.mv (.t 9))⟩, ⟨(some 8), none, (.mv (.t 38))⟩]) .ret))))
theorem k_spec_GateUsed : comp Try.prog 39 (Try.f22.body.getD .skip) = some c_spec_GateUsed := by kernel_rfl

theorem spec_GateUsed (l : GateLaw) (hl : l.Ok) (b : GateBook) (hb : b.Ok) (team : List UInt8) (ht : team.length ≤ 1048576) (res : List UInt8) (hs : res.length ≤ 1048576)  (σ : Store) : ACalls Try.prog 22 [.agg (l.vs), .agg (b.vs), .t (.str (team)), .t (.str (res))] σ fun rr σ' => rr = .t (.int .i64 (usedR l b team res)) ∧ σ' = σ := by
  refine acalls_of Try.func22 (by decide +kernel) (code := Try.f22.body.getD .skip) (n := 39) (c := c_spec_GateUsed) (rs := [(.tmp 8)]) rfl rfl k_spec_GateUsed (by kernel_rfl) (by simp) (fun hσ => ?_)
  have hh : True := trivial
  have fin : ∀ {u : V} {τ : Store}, u = .t (.int .i64 (usedR l b team res)) → u.lt σ.length = true → retV σ.length (fun rr σ' => rr = .t (.int .i64 (usedR l b team res)) ∧ σ' = σ) (σ ++ τ) (some [u]) := fun h h2 => ret_same rfl hσ h2 ⟨h, rfl⟩
  have fin0 : ∀ {u : V}, u = .t (.int .i64 (usedR l b team res)) → retV σ.length (fun rr σ' => rr = .t (.int .i64 (usedR l b team res)) ∧ σ' = σ) σ (some [u]) := fun h => ret_same0 rfl ⟨h, rfl⟩
  have y1 := hb.Objects.1
  simp -implicitDefEqProofs only [c_spec_GateUsed, GateLaw.vs, GateBook.vs, GateObject.ts, nat_nn, Nat.zero_le, List.getElem?_map, Option.map_some, List.length_map, S0, S1, S2, S3, S4, S5, S6, S7, S8, S9, S10, S11, S12, S13, S14, S15, S16, S17, opv, opvs, eget, env0, setD, lenStr, lenSl, isNilP, isNilS, putAt, if_true, if_false, reduceCtorEq, Nat.reduceLeDiff, Nat.reduceEqDiff, Nat.reduceSub, Nat.reduceMul, Nat.reduceAdd]
  refine loop_p [9, 10, 2, 3, 4, 5] [2, 3, 4, 5] (fun k : Nat => [(9, .t (.int .i64 ((b.Objects.take k).foldl (usedStep l team res) 0))), (10, .t (.int .i64 (k : Nat)))]) (fun k => k ≤ b.Objects.length) (fun k => b.Objects.length - k) 0 (by simp) (Nat.zero_le _) rfl ?_
  rintro k hk
  simp -implicitDefEqProofs only [keep, GateLaw.vs, GateBook.vs, GateObject.ts, nat_nn, Nat.zero_le, List.getElem?_map, Option.map_some, List.length_map, S0, S1, S2, S3, S4, S5, S6, S7, S8, S9, S10, S11, S12, S13, S14, S15, S16, S17, opv, opvs, eget, env0, setD, lenStr, lenSl, isNilP, isNilS, putAt, if_true, if_false, reduceCtorEq, Nat.reduceLeDiff, Nat.reduceEqDiff, Nat.reduceSub, Nat.reduceMul, Nat.reduceAdd]
  refine cond_split (fun h1 => ?_) (fun h1 => ?_)
  · obtain ⟨x, hx, hlt⟩ := at_of h1
    have hxo := hb.Objects.2 x (mem_at hx)
    have more := i64_succ (show k < 4611686018427387904 by omega)
    have hst : (b.Objects.take (k + 1)).foldl (usedStep l team res) 0 = usedStep l team res ((b.Objects.take k).foldl (usedStep l team res) 0) x := by rw [take_of hx, List.foldl_append]; rfl
    have wA : under l.Teams team 4 x.Team = true → (b.Objects.take (k + 1)).foldl (usedStep l team res) 0 = IntKind.i64.wrap ((b.Objects.take k).foldl (usedStep l team res) 0 + weighsR l.Shapes x res) := fun h => by rw [hst, usedStep, if_pos h]
    have wC : under l.Teams team 4 x.Team = false → (b.Objects.take (k + 1)).foldl (usedStep l team res) 0 = (b.Objects.take k).foldl (usedStep l team res) 0 := fun h => by rw [hst, usedStep, if_neg (by rw [h]; simp)]
    clear h1 hh
    have hh : True := trivial
    simp -implicitDefEqProofs only [hx, more, GateLaw.vs, GateBook.vs, GateObject.ts, nat_nn, Nat.zero_le, List.getElem?_map, Option.map_some, List.length_map, S0, S1, S2, S3, S4, S5, S6, S7, S8, S9, S10, S11, S12, S13, S14, S15, S16, S17, opv, opvs, eget, env0, setD, lenStr, lenSl, isNilP, isNilS, putAt, if_true, if_false, reduceCtorEq, Nat.reduceLeDiff, Nat.reduceEqDiff, Nat.reduceSub, Nat.reduceMul, Nat.reduceAdd]
    repeat' (first
      | ((with_reducible refine cond_known (fun h => ?_) (fun h => ?_)) <;> (replace hh := And.intro h hh; clear h; simp -implicitDefEqProofs only [hh, cond_t, cond_f, hx, more, GateLaw.vs, GateBook.vs, GateObject.ts, nat_nn, Nat.zero_le, List.getElem?_map, Option.map_some, List.length_map, S0, S1, S2, S3, S4, S5, S6, S7, S8, S9, S10, S11, S12, S13, S14, S15, S16, S17, opv, opvs, eget, env0, setD, lenStr, lenSl, isNilP, isNilS, putAt, if_true, if_false, reduceCtorEq, Nat.reduceLeDiff, Nat.reduceEqDiff, Nat.reduceSub, Nat.reduceMul, Nat.reduceAdd]))
      | ((with_reducible refine call_pure (spec_GateUnder l.Teams x.Team team hl.Teams.1 _) ?_); simp -implicitDefEqProofs only [hh, cond_t, cond_f, hx, more, GateLaw.vs, GateBook.vs, GateObject.ts, nat_nn, Nat.zero_le, List.getElem?_map, Option.map_some, List.length_map, S0, S1, S2, S3, S4, S5, S6, S7, S8, S9, S10, S11, S12, S13, S14, S15, S16, S17, opv, opvs, eget, env0, setD, lenStr, lenSl, isNilP, isNilS, putAt, if_true, if_false, reduceCtorEq, Nat.reduceLeDiff, Nat.reduceEqDiff, Nat.reduceSub, Nat.reduceMul, Nat.reduceAdd])
      | ((with_reducible refine call_pure (spec_GateWeighs l hl x hxo res hs _) ?_); simp -implicitDefEqProofs only [hh, cond_t, cond_f, hx, more, GateLaw.vs, GateBook.vs, GateObject.ts, nat_nn, Nat.zero_le, List.getElem?_map, Option.map_some, List.length_map, S0, S1, S2, S3, S4, S5, S6, S7, S8, S9, S10, S11, S12, S13, S14, S15, S16, S17, opv, opvs, eget, env0, setD, lenStr, lenSl, isNilP, isNilS, putAt, if_true, if_false, reduceCtorEq, Nat.reduceLeDiff, Nat.reduceEqDiff, Nat.reduceSub, Nat.reduceMul, Nat.reduceAdd])
      | (first | exact lk_p0 (k + 1) (by simp) (by simp) (by omega) (by omega) (by rw [wA (by (try simp only [Known] at hh); grind)]; rfl) | exact lk_p (k + 1) (by simp) (by simp) hσ rfl (by omega) (by omega) (by simp [ltE, keep, eget, V.lt]) (by rw [wA (by (try simp only [Known] at hh); grind)]; rfl) | exact lk_pm (k + 1) (Nat.le_refl _) (by simp) hσ rfl rfl (by omega) (by omega) (by simp [ltE, keep, eget, V.lt]) (by rw [wA (by (try simp only [Known] at hh); grind)]; rfl))
      | (first | exact lk_p0 (k + 1) (by simp) (by simp) (by omega) (by omega) (by rw [wC (by (try simp only [Known] at hh); grind)]; rfl) | exact lk_p (k + 1) (by simp) (by simp) hσ rfl (by omega) (by omega) (by simp [ltE, keep, eget, V.lt]) (by rw [wC (by (try simp only [Known] at hh); grind)]; rfl) | exact lk_pm (k + 1) (Nat.le_refl _) (by simp) hσ rfl rfl (by omega) (by omega) (by simp [ltE, keep, eget, V.lt]) (by rw [wC (by (try simp only [Known] at hh); grind)]; rfl)))
  · have hkk := end_of h1 hk
    subst hkk
    simp -implicitDefEqProofs only [List.take_length, S0, S1, S2, S3, S4, S5, S6, S7, S8, S9, S10, S11, S12, S13, S14, S15, S16, S17, opv, opvs, eget, env0, setD, lenStr, lenSl, isNilP, isNilS, putAt, if_true, if_false, reduceCtorEq, Nat.reduceLeDiff, Nat.reduceEqDiff, Nat.reduceSub, Nat.reduceMul, Nat.reduceAdd]
    first | exact fin0 rfl | exact fin rfl rfl

def c_impl_GateUsed : C := (.seq (.ops [⟨(some 4), none, (.box (.t 0))⟩, ⟨(some 5), none, (.box (.t 1))⟩, ⟨(some 8), none, (.mv (.c (.t (.int .i64 0))))⟩]) (.seq (.ops [⟨(some 9), none, (.mv (.c (.t (.int .i64 0))))⟩]) (.seq (.seq (.ops [⟨(some 12), none, (.fieldAddr 3 (.t 5))⟩, ⟨(some 13), none, (.load none (.t 12))⟩, ⟨(some 14), none, (.len false (.t 13))⟩, ⟨(some 15), none, (.mv (.c (.t (.int .i64 0))))⟩]) (.block 0 (.loop (.seq (.ops [⟨(some 16), none, (.bin .lss (.t 15) (.t 14))⟩]) (.seq (.cond (.t 16) .skip (.exit 0)) (.seq (.block 1 (.seq (.ops [⟨(some 17), none, (.indexAddr 7 (.t 13) (.t 15))⟩, ⟨(some 18), none, (.load (some 7) (.t 17))⟩, ⟨(some 11), none, (.new [(.t (.str [])), (.t (.str [])), (.t (.str [])), .nils, (.t (.bool false)), .nils, (.t (.int .i64 0))])⟩, ⟨none, none, (.store 7 (.t 11) (.t 18))⟩]) (.seq (.ops [⟨(some 19), none, (.fieldAddr 2 (.t 4))⟩, ⟨(some 20), none, (.load none (.t 19))⟩, ⟨(some 21), none, (.fieldAddr 2 (.t 11))⟩, ⟨(some 22), none, (.load none (.t 21))⟩, ⟨(some 23), none, (.mv (.t 2))⟩, ⟨(some 24), none, (.call (.c (.fn (.func 16) [])) [(.t 20), (.t 22), (.t 23)])⟩]) (.cond (.t 24) (.ops [⟨(some 25), none, (.mv (.t 9))⟩, ⟨(some 26), none, (.load (some 3) (.t 4))⟩, ⟨(some 27), none, (.load (some 7) (.t 11))⟩, ⟨(some 28), none, (.mv (.t 3))⟩, ⟨(some 29), none, (.call (.c (.fn (.func 48) [])) [(.t 26), (.t 27), (.t 28)])⟩, ⟨(some 30), none, (.bin .add (.t 25) (.t 29))⟩, ⟨(some 9), none, (.mv (.t 30))⟩]) .skip)))) (.ops [⟨(some 31), none, (.bin .add (.t 15) (.c (.t (.int .i64 1))))⟩, ⟨(some 15), none, (.mv (.t 31))⟩]))))))) (.seq (.ops [⟨(some 32), none, (.mv (.t 9))⟩, ⟨(some 8), none, (.mv (.t 32))⟩]) .ret))))
theorem k_impl_GateUsed : comp Try.prog 33 (Try.f25.body.getD .skip) = some c_impl_GateUsed := by kernel_rfl

theorem impl_GateUsed (l : GateLaw) (hl : l.Ok) (b : GateBook) (hb : b.Ok) (team : List UInt8) (ht : team.length ≤ 1048576) (res : List UInt8) (hs : res.length ≤ 1048576)  (σ : Store) : ACalls Try.prog 25 [.agg (l.vs), .agg (b.vs), .t (.str (team)), .t (.str (res))] σ fun rr σ' => rr = .t (.int .i64 (usedR l b team res)) ∧ σ' = σ := by
  refine acalls_of Try.func25 (by decide +kernel) (code := Try.f25.body.getD .skip) (n := 33) (c := c_impl_GateUsed) (rs := [(.tmp 8)]) rfl rfl k_impl_GateUsed (by kernel_rfl) (by simp) (fun hσ => ?_)
  have hh : True := trivial
  have fin : ∀ {u : V} {τ : Store}, u = .t (.int .i64 (usedR l b team res)) → u.lt σ.length = true → retV σ.length (fun rr σ' => rr = .t (.int .i64 (usedR l b team res)) ∧ σ' = σ) (σ ++ τ) (some [u]) := fun h h2 => ret_same rfl hσ h2 ⟨h, rfl⟩
  have fin0 : ∀ {u : V}, u = .t (.int .i64 (usedR l b team res)) → retV σ.length (fun rr σ' => rr = .t (.int .i64 (usedR l b team res)) ∧ σ' = σ) σ (some [u]) := fun h => ret_same0 rfl ⟨h, rfl⟩
  have y1 := hb.Objects.1
  simp -implicitDefEqProofs only [c_impl_GateUsed, GateLaw.vs, GateBook.vs, GateObject.ts, nat_nn, Nat.zero_le, List.getElem?_map, Option.map_some, List.length_map, S0, S1, S2, S3, S4, S5, S6, S7, S8, S9, S10, S11, S12, S13, S14, S15, S16, S17, opv, opvs, eget, env0, setD, lenStr, lenSl, isNilP, isNilS, putAt, if_true, if_false, reduceCtorEq, Nat.reduceLeDiff, Nat.reduceEqDiff, Nat.reduceSub, Nat.reduceMul, Nat.reduceAdd]
  refine loop_p [9, 15, 2, 3, 4, 13, 14] [2, 3, 4, 13, 14] (fun k : Nat => [(9, .t (.int .i64 ((b.Objects.take k).foldl (usedStep l team res) 0))), (15, .t (.int .i64 (k : Nat)))]) (fun k => k ≤ b.Objects.length) (fun k => b.Objects.length - k) 0 (by simp) (Nat.zero_le _) rfl ?_
  rintro k hk
  simp -implicitDefEqProofs only [keep, GateLaw.vs, GateBook.vs, GateObject.ts, nat_nn, Nat.zero_le, List.getElem?_map, Option.map_some, List.length_map, S0, S1, S2, S3, S4, S5, S6, S7, S8, S9, S10, S11, S12, S13, S14, S15, S16, S17, opv, opvs, eget, env0, setD, lenStr, lenSl, isNilP, isNilS, putAt, if_true, if_false, reduceCtorEq, Nat.reduceLeDiff, Nat.reduceEqDiff, Nat.reduceSub, Nat.reduceMul, Nat.reduceAdd]
  refine cond_split (fun h1 => ?_) (fun h1 => ?_)
  · obtain ⟨x, hx, hlt⟩ := at_of h1
    have hxo := hb.Objects.2 x (mem_at hx)
    have more := i64_succ (show k < 4611686018427387904 by omega)
    have hst : (b.Objects.take (k + 1)).foldl (usedStep l team res) 0 = usedStep l team res ((b.Objects.take k).foldl (usedStep l team res) 0) x := by rw [take_of hx, List.foldl_append]; rfl
    have wA : under l.Teams team 4 x.Team = true → (b.Objects.take (k + 1)).foldl (usedStep l team res) 0 = IntKind.i64.wrap ((b.Objects.take k).foldl (usedStep l team res) 0 + weighsR l.Shapes x res) := fun h => by rw [hst, usedStep, if_pos h]
    have wC : under l.Teams team 4 x.Team = false → (b.Objects.take (k + 1)).foldl (usedStep l team res) 0 = (b.Objects.take k).foldl (usedStep l team res) 0 := fun h => by rw [hst, usedStep, if_neg (by rw [h]; simp)]
    clear h1 hh
    have hh : True := trivial
    simp -implicitDefEqProofs only [hx, more, GateLaw.vs, GateBook.vs, GateObject.ts, nat_nn, Nat.zero_le, List.getElem?_map, Option.map_some, List.length_map, S0, S1, S2, S3, S4, S5, S6, S7, S8, S9, S10, S11, S12, S13, S14, S15, S16, S17, opv, opvs, eget, env0, setD, lenStr, lenSl, isNilP, isNilS, putAt, if_true, if_false, reduceCtorEq, Nat.reduceLeDiff, Nat.reduceEqDiff, Nat.reduceSub, Nat.reduceMul, Nat.reduceAdd]
    repeat' (first
      | ((with_reducible refine cond_known (fun h => ?_) (fun h => ?_)) <;> (replace hh := And.intro h hh; clear h; simp -implicitDefEqProofs only [hh, cond_t, cond_f, hx, more, GateLaw.vs, GateBook.vs, GateObject.ts, nat_nn, Nat.zero_le, List.getElem?_map, Option.map_some, List.length_map, S0, S1, S2, S3, S4, S5, S6, S7, S8, S9, S10, S11, S12, S13, S14, S15, S16, S17, opv, opvs, eget, env0, setD, lenStr, lenSl, isNilP, isNilS, putAt, if_true, if_false, reduceCtorEq, Nat.reduceLeDiff, Nat.reduceEqDiff, Nat.reduceSub, Nat.reduceMul, Nat.reduceAdd]))
      | ((with_reducible refine call_pure (impl_GateUnder l.Teams x.Team team hl.Teams.1 _) ?_); simp -implicitDefEqProofs only [hh, cond_t, cond_f, hx, more, GateLaw.vs, GateBook.vs, GateObject.ts, nat_nn, Nat.zero_le, List.getElem?_map, Option.map_some, List.length_map, S0, S1, S2, S3, S4, S5, S6, S7, S8, S9, S10, S11, S12, S13, S14, S15, S16, S17, opv, opvs, eget, env0, setD, lenStr, lenSl, isNilP, isNilS, putAt, if_true, if_false, reduceCtorEq, Nat.reduceLeDiff, Nat.reduceEqDiff, Nat.reduceSub, Nat.reduceMul, Nat.reduceAdd])
      | ((with_reducible refine call_pure (impl_GateWeighs l hl x hxo res hs _) ?_); simp -implicitDefEqProofs only [hh, cond_t, cond_f, hx, more, GateLaw.vs, GateBook.vs, GateObject.ts, nat_nn, Nat.zero_le, List.getElem?_map, Option.map_some, List.length_map, S0, S1, S2, S3, S4, S5, S6, S7, S8, S9, S10, S11, S12, S13, S14, S15, S16, S17, opv, opvs, eget, env0, setD, lenStr, lenSl, isNilP, isNilS, putAt, if_true, if_false, reduceCtorEq, Nat.reduceLeDiff, Nat.reduceEqDiff, Nat.reduceSub, Nat.reduceMul, Nat.reduceAdd])
      | (first | exact lk_p0 (k + 1) (by simp) (by simp) (by omega) (by omega) (by rw [wA (by (try simp only [Known] at hh); grind)]; rfl) | exact lk_p (k + 1) (by simp) (by simp) hσ rfl (by omega) (by omega) (by simp [ltE, keep, eget, V.lt]) (by rw [wA (by (try simp only [Known] at hh); grind)]; rfl) | exact lk_pm (k + 1) (Nat.le_refl _) (by simp) hσ rfl rfl (by omega) (by omega) (by simp [ltE, keep, eget, V.lt]) (by rw [wA (by (try simp only [Known] at hh); grind)]; rfl))
      | (first | exact lk_p0 (k + 1) (by simp) (by simp) (by omega) (by omega) (by rw [wC (by (try simp only [Known] at hh); grind)]; rfl) | exact lk_p (k + 1) (by simp) (by simp) hσ rfl (by omega) (by omega) (by simp [ltE, keep, eget, V.lt]) (by rw [wC (by (try simp only [Known] at hh); grind)]; rfl) | exact lk_pm (k + 1) (Nat.le_refl _) (by simp) hσ rfl rfl (by omega) (by omega) (by simp [ltE, keep, eget, V.lt]) (by rw [wC (by (try simp only [Known] at hh); grind)]; rfl)))
  · have hkk := end_of h1 hk
    subst hkk
    simp -implicitDefEqProofs only [List.take_length, S0, S1, S2, S3, S4, S5, S6, S7, S8, S9, S10, S11, S12, S13, S14, S15, S16, S17, opv, opvs, eget, env0, setD, lenStr, lenSl, isNilP, isNilS, putAt, if_true, if_false, reduceCtorEq, Nat.reduceLeDiff, Nat.reduceEqDiff, Nat.reduceSub, Nat.reduceMul, Nat.reduceAdd]
    first | exact fin0 rfl | exact fin rfl rfl

end Go.Proofs.Ytgdmgoidfglobaa.W

end
