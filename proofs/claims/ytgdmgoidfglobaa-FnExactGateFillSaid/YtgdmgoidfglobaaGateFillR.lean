/- Copies of objects. Conditions: none. -/
/- Objects that are filled. Conditions: none. -/
/- What filling gives. Conditions: none. -/
import Derived.Test.YtgdmgoidfglobaaGateShapesOk
set_option linter.unusedSimpArgs false
set_option linter.unusedVariables false
set_option linter.defProp false

section
open Go Go.Ab
set_option maxHeartbeats 2000000
namespace Go.Proofs.Ytgdmgoidfglobaa.W
theorem strs_flat (l : List (List UInt8)) : flat (l.map tStr) := by
  intro r hr t ht
  obtain ⟨w, _, rfl⟩ := List.mem_map.1 hr
  simp only [tStr, List.mem_singleton] at ht
  subst ht; rfl
theorem own_strs {s : Store} {a m : Nat} {l : List (List UInt8)} (ho : s[a]? = some (tObj 1 (l.map tStr))) (hm : m = l.length) : Own s (tStrs l) (.sl a m 0 m) [a] := by
  have := own_rows (σ := s) (id := a) (n := 1) (rows := l.map tStr) (by omega) (strs_flat l) ho
  rw [List.length_map] at this
  rw [hm]; exact this
/-- Flat rows put behind an empty list that is written down. -/
theorem app_rows0 {n bys : Nat} {s : Store} {rs : List (List T)} {K : Tok → V → Store → Prop} (hp : 0 < n) (hr : flat rs) (hb : rs.length * bys ≤ maxBy) (hm : rs.length ≤ 9223372036854775807)
    (hk : ∀ v s' is, s.length ≤ s'.length → s'.length ≤ s.length + 1 → Kp s s' → Own s' (.lst n rs) v is → Wi is s.length s'.length → K .go v s') : evAppend n bys s (rs.map fun r => r.map .t) (.rows n []) K := by
  simp only [evAppend, List.length_map]
  refine ⟨trivial, hb, hm, fun e => ?_, fun e => ?_⟩
  · have : rs = [] := by simpa using e
    subst this
    exact hk _ _ [] (Nat.le_refl _) (by omega) (Kp.refl _) (by simp [Own, hp]) Wi.nil
  · exact hk _ _ [s.length] (by simp) (by simp) (Kp.app _ _) (own_flat hp hr rfl) (by simpa using wi_one s.length)
theorem own_7 {s : Store} {o : GateObject} {v h : V} {i j : List Nat} (hv : Own s (tStrs o.Values) v i) (hh : Own s (tStrs o.Holds) h j) : OwnL s o.ts [.t (.str o.Kind), .t (.str o.Name), .t (.str o.Team), v, .t (.bool o.Ending), h, .t (.int .i64 o.Version)] (i ++ (j ++ [])) :=
  .str (.str (.str (.lst hv (.bool (.lst hh (.int .nil0))))))

def c_impl_copyTexts : C := (.seq (.ops [⟨(some 2), none, (.mv (.c .nils))⟩]) (.seq (.seq (.ops [⟨(some 4), none, (.mv (.t 0))⟩, ⟨(some 5), none, (.len false (.t 4))⟩, ⟨(some 6), none, (.bin .eql (.t 5) (.c (.t (.int .i64 0))))⟩]) (.cond (.t 6) (.seq (.ops [⟨(some 2), none, (.mv (.c .nils))⟩]) .ret) .skip)) (.seq (.ops [⟨(some 7), none, (.mv (.t 0))⟩, ⟨(some 8), none, (.len false (.t 7))⟩, ⟨(some 9), none, (.mkSl 1 16 [(.t (.str []))] (.t 8) (.t 8))⟩, ⟨(some 3), none, (.mv (.t 9))⟩]) (.seq (.ops [⟨(some 10), none, (.mv (.t 3))⟩, ⟨(some 11), none, (.mv (.t 0))⟩, ⟨(some 12), none, (.copy 1 (.t 10) (.t 11))⟩]) (.seq (.ops [⟨(some 13), none, (.mv (.t 3))⟩, ⟨(some 2), none, (.mv (.t 13))⟩]) .ret)))))
theorem k_impl_copyTexts : comp Try.prog 14 (Try.f154.body.getD .skip) = some c_impl_copyTexts := by kernel_rfl

theorem impl_copyTexts (l : List (List UInt8)) (hl : l.length ≤ 1048576) (σ : Store) : ACalls Try.prog 154 [.t (tStrs l)] σ (ToR (tStrs l) σ) := by
  refine acalls_of Try.func154 (by decide +kernel) (code := Try.f154.body.getD .skip) (n := 14) (c := c_impl_copyTexts) (rs := [(.tmp 2)]) rfl rfl k_impl_copyTexts (by kernel_rfl) (by simp) (fun hσ => ?_)
  simp -implicitDefEqProofs only [c_impl_copyTexts, tStrs, List.length_map, S0, S1, S2, S3, S4, S5, S6, S7, S8, S9, S10, S11, S12, S13, S14, S15, S16, S17, opv, opvs, eget, env0, setD, lenStr, lenSl, isNilP, isNilS, putAt, if_true, if_false, reduceCtorEq, Nat.reduceLeDiff, Nat.reduceEqDiff, Nat.reduceSub, Nat.reduceMul, Nat.reduceAdd]
  by_cases h0 : l = []
  · subst h0
    have b0 : (((0 : Nat) : Int) == 0) = true := rfl
    simp -implicitDefEqProofs only [b0, cond_t, cond_f, S0, S1, S2, S3, S4, S5, S6, S7, S8, S9, S10, S11, S12, S13, S14, S15, S16, S17, opv, opvs, eget, env0, setD, lenStr, lenSl, isNilP, isNilS, putAt, if_true, if_false, reduceCtorEq, Nat.reduceLeDiff, Nat.reduceEqDiff, Nat.reduceSub, Nat.reduceMul, Nat.reduceAdd]
    refine fin_keep (Nat.le_refl _) ?_
    exact ⟨[], [], by simp, own_empty (by omega), Wi.nil⟩
  · have hp : 0 < l.length := List.length_pos_iff.2 h0
    have b0 : ((l.length : Int) == 0) = false := by simp; omega
    have m1 : l.length * 16 ≤ maxBy := by simp only [maxBy]; omega
    simp -implicitDefEqProofs only [b0, cond_t, cond_f, List.length_map, S0, S1, S2, S3, S4, S5, S6, S7, S8, S9, S10, S11, S12, S13, S14, S15, S16, S17, opv, opvs, eget, env0, setD, lenStr, lenSl, isNilP, isNilS, putAt, if_true, if_false, reduceCtorEq, Nat.reduceLeDiff, Nat.reduceEqDiff, Nat.reduceSub, Nat.reduceMul, Nat.reduceAdd]
    refine ⟨by omega, by omega, by omega, by omega, by simp, by omega, ?_⟩
    rw [Nat.min_self, List.take_of_length_le (by simp), List.drop_of_length_le (by simp), List.append_nil]
    refine fin_keep (by simp) ?_
    exact ⟨_, [σ.length], rfl, own_strs (by simp [tObj]) rfl, by simpa using wi_one σ.length⟩

def c__impl_GateObject__twin : C := (.seq (.ops [⟨(some 1), none, (.box (.t 0))⟩, ⟨(some 2), none, (.new [(.t (.str [])), (.t (.str [])), (.t (.str [])), .nils, (.t (.bool false)), .nils, (.t (.int .i64 0))])⟩]) (.seq (.ops [⟨(some 3), none, (.fieldAddr 3 (.t 1))⟩, ⟨(some 4), none, (.load none (.t 3))⟩, ⟨(some 5), none, (.call (.c (.fn (.func 154) [])) [(.t 4)])⟩, ⟨(some 6), none, (.fieldAddr 3 (.t 1))⟩, ⟨none, none, (.store 1 (.t 6) (.t 5))⟩]) (.seq (.ops [⟨(some 7), none, (.fieldAddr 5 (.t 1))⟩, ⟨(some 8), none, (.load none (.t 7))⟩, ⟨(some 9), none, (.call (.c (.fn (.func 154) [])) [(.t 8)])⟩, ⟨(some 10), none, (.fieldAddr 5 (.t 1))⟩, ⟨none, none, (.store 1 (.t 10) (.t 9))⟩]) (.seq (.ops [⟨(some 11), none, (.load (some 7) (.t 1))⟩, ⟨none, none, (.store 7 (.t 2) (.t 11))⟩]) .ret))))
theorem k__impl_GateObject__twin : comp Try.prog 12 (Try.f114.body.getD .skip) = some c__impl_GateObject__twin := by kernel_rfl

set_option maxHeartbeats 8000000 in
theorem impl_twin (o : GateObject) (ho : o.Ok) (σ : Store) : ACalls Try.prog 114 [.agg o.vs] σ (ToLR o.ts σ) := by
  refine acalls_of Try.func114 (by decide +kernel) (code := Try.f114.body.getD .skip) (n := 12) (c := c__impl_GateObject__twin) (rs := [(.cell 2 (some 7))]) rfl rfl k__impl_GateObject__twin (by kernel_rfl) (by simp) (fun hσ => ?_)
  simp -implicitDefEqProofs only [c__impl_GateObject__twin, GateObject.vs, S0, S1, S2, S3, S4, S5, S6, S7, S8, S9, S10, S11, S12, S13, S14, S15, S16, S17, opv, opvs, eget, env0, setD, lenStr, lenSl, isNilP, isNilS, putAt, if_true, if_false, reduceCtorEq, Nat.reduceLeDiff, Nat.reduceEqDiff, Nat.reduceSub, Nat.reduceMul, Nat.reduceAdd]
  refine call_new (impl_copyTexts o.Values ho.Values.1 _) ?_
  intro v s i hl k hv hw
  have hone := hv.one
  have e1 := k σ.length (by simp)
  have e2 := k (σ.length + 1) (by simp)
  simp -implicitDefEqProofs only [S0, S1, S2, S3, S4, S5, S6, S7, S8, S9, S10, S11, S12, S13, S14, S15, S16, S17, opv, opvs, eget, env0, setD, lenStr, lenSl, isNilP, isNilS, putAt, if_true, if_false, reduceCtorEq, Nat.reduceLeDiff, Nat.reduceEqDiff, Nat.reduceSub, Nat.reduceMul, Nat.reduceAdd] at e1 e2
  have hsl : σ.length + 2 ≤ s.length := by simpa using hl
  have e1t : ∀ x : Go.Ab.Obj, (s.set σ.length x)[σ.length]? = some x := fun x => List.getElem?_set_self (by omega)
  simp -implicitDefEqProofs only [e1, e2, e1t, hone, one_cells hone, S0, S1, S2, S3, S4, S5, S6, S7, S8, S9, S10, S11, S12, S13, S14, S15, S16, S17, opv, opvs, eget, env0, setD, lenStr, lenSl, isNilP, isNilS, putAt, if_true, if_false, reduceCtorEq, Nat.reduceLeDiff, Nat.reduceEqDiff, Nat.reduceSub, Nat.reduceMul, Nat.reduceAdd]
  refine call_new (impl_copyTexts o.Holds ho.Holds.1 _) ?_
  intro h s2 j hl2 k2 hh hw2
  have hone2 := hh.one
  simp only [List.length_append, List.length_cons, List.length_nil, List.length_set] at hl hl2 hw hw2
  have f1 := k2 σ.length (by simp; omega)
  have f2 := k2 (σ.length + 1) (by simp; omega)
  rw [List.getElem?_set_self (by omega)] at f1
  rw [List.getElem?_set_ne (by omega), e2] at f2
  have f1s : ∀ x : Go.Ab.Obj, (s2.set σ.length x)[σ.length + 1]? = some _ := fun x => by rw [List.getElem?_set_ne (by omega)]; exact f2
  have f1t : ∀ x : Go.Ab.Obj, (s2.set σ.length x)[σ.length]? = some x := fun x => List.getElem?_set_self (by omega)
  have f2t : ∀ x y : Go.Ab.Obj, ((s2.set σ.length x).set (σ.length + 1) y)[σ.length + 1]? = some y := fun x y => List.getElem?_set_self (by simp; omega)
  simp -implicitDefEqProofs only [f1, f2, f1s, f1t, f2t, hone, hone2, one_cells hone, one_cells hone2, S0, S1, S2, S3, S4, S5, S6, S7, S8, S9, S10, S11, S12, S13, S14, S15, S16, S17, opv, opvs, eget, env0, setD, lenStr, lenSl, isNilP, isNilS, putAt, if_true, if_false, reduceCtorEq, Nat.reduceLeDiff, Nat.reduceEqDiff, Nat.reduceSub, Nat.reduceMul, Nat.reduceAdd]
  have hv2 : Own s2 (tStrs o.Values) v i := hv.frame fun x hx => by have := hw.2 x hx; rw [k2 x (by simp; omega), List.getElem?_set_ne (by omega)]
  have K0 : Kp σ s2 := fun x hx => by rw [k2 x (by simp; omega), List.getElem?_set_ne (by omega), k x (by simp; omega), List.getElem?_append_left hx]
  refine fin_keep (by simp; omega) ⟨_, _, i ++ (j ++ []), rfl, kp_split ((K0.set (by omega)).set (by omega)) (by simp; omega), ?_, ?_⟩
  · refine OwnL.frame (own_7 hv2 hh) fun x hx => ?_
    have h1 : σ.length + 2 ≤ x := by
      simp only [List.append_nil, List.mem_append] at hx
      rcases hx with hx | hx
      · have := hw.2 x hx; omega
      · have := hw2.2 x hx; omega
    rw [List.getElem?_set_ne (by omega), List.getElem?_set_ne (by omega)]
  · simp only [List.length_set]
    exact wi_more hw (wi_last hw2 (Nat.le_refl _) (Nat.le_refl _)) (by omega) (by omega)

def c_spec_l2Copy : C := (.seq (.ops [⟨(some 1), none, (.box (.t 0))⟩, ⟨(some 2), none, (.new [(.t (.str [])), (.t (.str [])), (.t (.str [])), .nils, (.t (.bool false)), .nils, (.t (.int .i64 0))])⟩]) (.seq (.ops [⟨(some 3), none, (.lit none 1 0 [(.t (.str []))] [])⟩, ⟨(some 4), none, (.fieldAddr 3 (.t 1))⟩, ⟨(some 5), none, (.load none (.t 4))⟩, ⟨(some 6), none, (.append 1 16 (.t 3) (.t 5))⟩, ⟨(some 7), none, (.fieldAddr 3 (.t 1))⟩, ⟨none, none, (.store 1 (.t 7) (.t 6))⟩]) (.seq (.ops [⟨(some 8), none, (.lit none 1 0 [(.t (.str []))] [])⟩, ⟨(some 9), none, (.fieldAddr 5 (.t 1))⟩, ⟨(some 10), none, (.load none (.t 9))⟩, ⟨(some 11), none, (.append 1 16 (.t 8) (.t 10))⟩, ⟨(some 12), none, (.fieldAddr 5 (.t 1))⟩, ⟨none, none, (.store 1 (.t 12) (.t 11))⟩]) (.seq (.ops [⟨(some 13), none, (.load (some 7) (.t 1))⟩, ⟨none, none, (.store 7 (.t 2) (.t 13))⟩]) .ret))))
theorem k_spec_l2Copy : comp Try.prog 14 (Try.f112.body.getD .skip) = some c_spec_l2Copy := by kernel_rfl

set_option maxHeartbeats 8000000 in
theorem spec_l2Copy (o : GateObject) (ho : o.Ok) (σ : Store) : ACalls Try.prog 112 [.agg o.vs] σ (ToLR o.ts σ) := by
  refine acalls_of Try.func112 (by decide +kernel) (code := Try.f112.body.getD .skip) (n := 14) (c := c_spec_l2Copy) (rs := [(.cell 2 (some 7))]) rfl rfl k_spec_l2Copy (by kernel_rfl) (by simp) (fun hσ => ?_)
  have y1 := ho.Values.1
  have y2 := ho.Holds.1
  have b1 : o.Values.length * 16 ≤ maxBy := by simp only [maxBy]; omega
  have b2 : o.Holds.length * 16 ≤ maxBy := by simp only [maxBy]; omega
  have b3 : o.Values.length ≤ 9223372036854775807 := by omega
  have b4 : o.Holds.length ≤ 9223372036854775807 := by omega
  simp -implicitDefEqProofs only [c_spec_l2Copy, GateObject.vs, S0, S1, S2, S3, S4, S5, S6, S7, S8, S9, S10, S11, S12, S13, S14, S15, S16, S17, opv, opvs, eget, env0, setD, lenStr, lenSl, isNilP, isNilS, putAt, if_true, if_false, reduceCtorEq, Nat.reduceLeDiff, Nat.reduceEqDiff, Nat.reduceSub, Nat.reduceMul, Nat.reduceAdd]
  refine lit_own ?_
  simp -implicitDefEqProofs only [List.length_map, List.length_nil, Nat.zero_add, b1, b3, S0, S1, S2, S3, S4, S5, S6, S7, S8, S9, S10, S11, S12, S13, S14, S15, S16, S17, opv, opvs, eget, env0, setD, lenStr, lenSl, isNilP, isNilS, putAt, if_true, if_false, reduceCtorEq, Nat.reduceLeDiff, Nat.reduceEqDiff, Nat.reduceSub, Nat.reduceMul, Nat.reduceAdd]
  refine lit_own ?_
  simp -implicitDefEqProofs only [List.length_map, List.length_nil, Nat.zero_add, b2, b4, S0, S1, S2, S3, S4, S5, S6, S7, S8, S9, S10, S11, S12, S13, S14, S15, S16, S17, opv, opvs, eget, env0, setD, lenStr, lenSl, isNilP, isNilS, putAt, if_true, if_false, reduceCtorEq, Nat.reduceLeDiff, Nat.reduceEqDiff, Nat.reduceSub, Nat.reduceMul, Nat.reduceAdd]
  refine fin_keep (by simp) ⟨_, _, [σ.length + 2] ++ ([σ.length + 3] ++ []), rfl, rfl, own_7 (own_strs ?_ rfl) (own_strs ?_ rfl), ?_⟩
  · rw [List.getElem?_append_right (by omega), Nat.add_sub_cancel_left]; rfl
  · rw [List.getElem?_append_right (by omega), Nat.add_sub_cancel_left]; rfl
  · exact ⟨by simp, by simp⟩

end Go.Proofs.Ytgdmgoidfglobaa.W

end


section
open Go Go.Ab
set_option maxHeartbeats 2000000
namespace Go.Proofs.Ytgdmgoidfglobaa.W
def filOne (p : GateField × List UInt8) : List UInt8 := if (p.2 == []) = true then p.1.Default else p.2
def filMid (fs : List GateField) (vs : List (List UInt8)) (k : Nat) : List (List UInt8) := ((fs.zip vs).take k).map filOne ++ vs.drop k
def filVs (fs : List GateField) (vs : List (List UInt8)) : List (List UInt8) := (fs.zip vs).map filOne
def filO (l : List GateShape) (o : GateObject) : GateObject := match fieldsR l o with
  | some fs => { o with Values := filVs fs o.Values }
  | none => o
def filR (l : List GateShape) (o : GateObject) : GateObject := if shapesG l = true then filO l o else o
theorem mid_len {fs : List GateField} {vs : List (List UInt8)} (h : fs.length = vs.length) (k : Nat) : (filMid fs vs k).length = vs.length := by
  simp only [filMid, List.length_append, List.length_map, List.length_take, List.length_zip, List.length_drop]; omega
theorem mid_zero (fs : List GateField) (vs : List (List UInt8)) : filMid fs vs 0 = vs := by simp [filMid]
theorem mid_all {fs : List GateField} {vs : List (List UInt8)} (h : fs.length = vs.length) : filMid fs vs fs.length = filVs fs vs := by
  rw [filMid, List.take_of_length_le (by rw [List.length_zip]; omega), List.drop_of_length_le (by omega), List.append_nil, filVs]
theorem mid_at {fs : List GateField} {vs : List (List UInt8)} {k : Nat} {v : List UInt8} (h : fs.length = vs.length) (hv : vs[k]? = some v) : (filMid fs vs k)[k]? = some v := by
  have hk := (List.getElem?_eq_some_iff.1 hv).1
  have hl : (((fs.zip vs).take k).map filOne).length = k := by simp; omega
  rw [filMid, List.getElem?_append_right (by omega), hl, Nat.sub_self, List.getElem?_drop, Nat.add_zero, hv]
theorem mid_step {fs : List GateField} {vs : List (List UInt8)} {k : Nat} {f : GateField} {v : List UInt8} (h : fs.length = vs.length) (hf : fs[k]? = some f) (hv : vs[k]? = some v) : filMid fs vs (k + 1) = (filMid fs vs k).set k (filOne (f, v)) := by
  have hk := (List.getElem?_eq_some_iff.1 hv).1
  have hl : (((fs.zip vs).take k).map filOne).length = k := by simp; omega
  have hz : (fs.zip vs)[k]? = some (f, v) := by rw [List.getElem?_zip_eq_some]; exact ⟨hf, hv⟩
  rw [filMid, filMid, List.set_append_right _ _ (by omega), hl, Nat.sub_self, take_of hz, List.map_append, List.append_assoc, drop_of hv]
  rfl
theorem set_same {α : Type} {l : List α} {k : Nat} {x : α} (h : l[k]? = some x) : l.set k x = l := by
  apply List.ext_getElem?
  intro i
  by_cases hi : i = k
  · subst hi
    rw [List.getElem?_set_self (List.getElem?_eq_some_iff.1 h).1, h]
  · rw [List.getElem?_set_ne (fun e => hi e.symm)]
structure Gf where
  k : Nat
  s : Store
theorem tObj_set (ws : List (List UInt8)) (k : Nat) (d : List UInt8) : (Go.Ab.Obj.slc 1 (((ws.map tStr).map fun r => r.map V.t).set k [.t (.str d)])) = tObj 1 ((ws.set k d).map tStr) := by
  simp [tObj, List.map_set, tStr]
theorem own_7_inv {s : Store} {o : GateObject} {us : List V} {is : List Nat} (h : OwnL s o.ts us is) : ∃ v h' i j, us = [.t (.str o.Kind), .t (.str o.Name), .t (.str o.Team), v, .t (.bool o.Ending), h', .t (.int .i64 o.Version)] ∧ is = i ++ j ∧ Own s (tStrs o.Values) v i ∧ Own s (tStrs o.Holds) h' j := by
  simp only [GateObject.ts] at h
  obtain ⟨u1, rfl, g1⟩ := oc_str h
  obtain ⟨u2, rfl, g2⟩ := oc_str g1
  obtain ⟨u3, rfl, g3⟩ := oc_str g2
  simp only [OwnL] at g3
  obtain ⟨v, _, i, j, rfl, rfl, hv, us, _, i2, j2, rfl, rfl, h2, hh, _, i3, j3, rfl, rfl, h3, u4, _, i4, j4, rfl, rfl, h4, rfl, rfl⟩ := g3
  simp only [Own] at h2 h4
  obtain ⟨rfl, rfl⟩ := h2
  obtain ⟨rfl, rfl⟩ := h4
  exact ⟨v, hh, i, i3, rfl, by simp, hv, h3⟩

def c_spec_l2Fill : C := (.seq (.ops [⟨(some 3), none, (.box (.t 1))⟩, ⟨(some 4), none, (.new [(.t (.str [])), (.t (.str [])), (.t (.str [])), .nils, (.t (.bool false)), .nils, (.t (.int .i64 0))])⟩]) (.seq (.ops [⟨(some 9), none, (.load (some 7) (.t 3))⟩, ⟨(some 10), none, (.call (.c (.fn (.func 112) [])) [(.t 9)])⟩, ⟨(some 5), none, (.new [(.t (.str [])), (.t (.str [])), (.t (.str [])), .nils, (.t (.bool false)), .nils, (.t (.int .i64 0))])⟩, ⟨none, none, (.store 7 (.t 5) (.t 10))⟩]) (.seq (.ops [⟨(some 12), none, (.mv (.t 0))⟩, ⟨(some 13), none, (.load (some 7) (.t 3))⟩, ⟨(some 14), none, (.call (.c (.fn (.func 103) [])) [(.t 12), (.t 13)])⟩, ⟨(some 11), none, (.mv (.t 14))⟩, ⟨(some 15), none, (.extract (.t 11) 0)⟩, ⟨(some 16), none, (.extract (.t 11) 1)⟩, ⟨(some 6), none, (.mv (.t 15))⟩, ⟨(some 7), none, (.mv (.t 16))⟩]) (.seq (.seq (.ops [⟨(some 17), none, (.mv (.t 7))⟩, ⟨(some 18), none, (.un .not (.t 17))⟩]) (.cond (.t 18) (.seq (.ops [⟨(some 19), none, (.load (some 7) (.t 5))⟩, ⟨none, none, (.store 7 (.t 4) (.t 19))⟩]) .ret) .skip)) (.seq (.seq (.ops [⟨(some 8), none, (.mv (.c (.t (.int .i64 0))))⟩]) (.block 0 (.loop (.seq (.seq (.ops [⟨(some 20), none, (.mv (.t 8))⟩, ⟨(some 21), none, (.mv (.t 6))⟩, ⟨(some 22), none, (.len false (.t 21))⟩, ⟨(some 23), none, (.bin .lss (.t 20) (.t 22))⟩]) (.cond (.t 23) .skip (.exit 0))) (.seq (.block 1 (.seq (.ops [⟨(some 26), none, (.fieldAddr 3 (.t 5))⟩, ⟨(some 27), none, (.load none (.t 26))⟩, ⟨(some 28), none, (.mv (.t 8))⟩, ⟨(some 29), none, (.indexAddr 1 (.t 27) (.t 28))⟩, ⟨(some 30), none, (.load none (.t 29))⟩, ⟨(some 31), none, (.bin .eql (.t 30) (.c (.t (.str []))))⟩]) (.cond (.t 31) (.drawn [(.mk 0 false ⟨(some 32), none, (.fieldAddr 3 (.t 5))⟩ []), (.mk 1 false ⟨(some 33), none, (.load none (.t 32))⟩ []), (.mk 2 false ⟨(some 34), none, (.mv (.t 8))⟩ []), (.mk 3 false ⟨(some 35), none, (.mv (.t 6))⟩ []), (.mk 4 false ⟨(some 36), none, (.mv (.t 8))⟩ []), (.mk 5 false ⟨(some 37), none, (.indexAddr 11 (.t 35) (.t 36))⟩ []), (.mk 6 false ⟨(some 38), none, (.fieldAddr 9 (.t 37))⟩ []), (.mk 7 false ⟨(some 39), none, (.load none (.t 38))⟩ []), (.mk 8 false ⟨(some 40), none, (.indexAddr 1 (.t 33) (.t 34))⟩ []), (.mk 9 false ⟨none, none, (.store 1 (.t 40) (.t 39))⟩ [])]) .skip))) (.ops [⟨(some 24), none, (.mv (.t 8))⟩, ⟨(some 25), none, (.bin .add (.t 24) (.c (.t (.int .i64 1))))⟩, ⟨(some 8), none, (.mv (.t 25))⟩])))))) (.seq (.ops [⟨(some 41), none, (.load (some 7) (.t 5))⟩, ⟨none, none, (.store 7 (.t 4) (.t 41))⟩]) .ret))))))
theorem k_spec_l2Fill : comp Try.prog 42 (Try.f113.body.getD .skip) = some c_spec_l2Fill := by kernel_rfl

set_option maxHeartbeats 8000000 in
theorem spec_l2Fill (l : List GateShape) (hl : GateShape.OkS l) (o : GateObject) (ho : o.Ok) (σ : Store) : ACalls Try.prog 113 [.t (tGateShapeS l), .agg o.vs] σ (ToLR (filO l o).ts σ) := by
  refine acalls_of Try.func113 (by decide +kernel) (code := Try.f113.body.getD .skip) (n := 42) (c := c_spec_l2Fill) (rs := [(.cell 4 (some 7))]) rfl rfl k_spec_l2Fill (by kernel_rfl) (by simp) (fun hσ => ?_)
  simp -implicitDefEqProofs only [c_spec_l2Fill, GateObject.vs, S0, S1, S2, S3, S4, S5, S6, S7, S8, S9, S10, S11, S12, S13, S14, S15, S16, S17, opv, opvs, eget, env0, setD, lenStr, lenSl, isNilP, isNilS, putAt, if_true, if_false, reduceCtorEq, Nat.reduceLeDiff, Nat.reduceEqDiff, Nat.reduceSub, Nat.reduceMul, Nat.reduceAdd]
  rw [← GateObject.vs]
  refine call_newL (spec_l2Copy o ho _) ?_
  intro us s0 is hle k0 hown hwi
  obtain ⟨v, hd, i, j, rfl, rfl, hv, hhd⟩ := own_7_inv hown
  have hov := hv.one
  have hoh := hhd.one
  simp only [List.length_append, List.length_cons, List.length_nil] at hle hwi
  have e1 := k0 σ.length (by simp)
  have e2 := k0 (σ.length + 1) (by simp)
  simp -implicitDefEqProofs only [S0, S1, S2, S3, S4, S5, S6, S7, S8, S9, S10, S11, S12, S13, S14, S15, S16, S17, opv, opvs, eget, env0, setD, lenStr, lenSl, isNilP, isNilS, putAt, if_true, if_false, reduceCtorEq, Nat.reduceLeDiff, Nat.reduceEqDiff, Nat.reduceSub, Nat.reduceMul, Nat.reduceAdd] at e1 e2
  have e1x : ∀ τ : Store, (s0 ++ τ)[σ.length]? = some _ := fun τ => (List.getElem?_append_left (by omega)).trans e1
  have e2x : ∀ τ : Store, (s0 ++ τ)[σ.length + 1]? = some _ := fun τ => (List.getElem?_append_left (by omega)).trans e2
  have K0 : Kp σ s0 := fun x hx => by rw [k0 x (by simp; omega), List.getElem?_append_left hx]
  have e2w : ∀ (τ : Store) (x : Go.Ab.Obj), ((s0 ++ τ).set (σ.length + 1) x)[σ.length + 1]? = some x := fun τ x => List.getElem?_set_self (by simp; omega)
  simp -implicitDefEqProofs only [e1, e2, e1x, e2x, hov, hoh, one_cells hov, one_cells hoh, GateObject.vs, S0, S1, S2, S3, S4, S5, S6, S7, S8, S9, S10, S11, S12, S13, S14, S15, S16, S17, opv, opvs, eget, env0, setD, lenStr, lenSl, isNilP, isNilS, putAt, if_true, if_false, reduceCtorEq, Nat.reduceLeDiff, Nat.reduceEqDiff, Nat.reduceSub, Nat.reduceMul, Nat.reduceAdd]
  rw [← GateObject.vs]
  refine call_pure (spec_l2Fields l hl.1 o _) ?_
  rcases hf : fieldsR l o with _ | fs
  · have hr : filO l o = o := by rw [filO, hf]
    rw [hr]
    simp -implicitDefEqProofs only [Option.isSome_none, cond_t, cond_f, e1, e2, e1x, e2x, e2w, hov, hoh, one_cells hov, one_cells hoh, fldV, GateObject.vs, GateShape.ts, S0, S1, S2, S3, S4, S5, S6, S7, S8, S9, S10, S11, S12, S13, S14, S15, S16, S17, opv, opvs, eget, env0, setD, lenStr, lenSl, isNilP, isNilS, putAt, if_true, if_false, reduceCtorEq, Nat.reduceLeDiff, Nat.reduceEqDiff, Nat.reduceSub, Nat.reduceMul, Nat.reduceAdd]
    refine fin_keep (by simp; omega) ⟨_, _, i ++ (j ++ []), rfl, kp_split ((kp_app2 K0).set (by omega)) (by simp; omega), ?_, ?_⟩
    · refine OwnL.frame (own_7 hv hhd) fun x hx => ?_
      have hx1 := hwi.2 x (by simpa using hx)
      rw [List.getElem?_set_ne (by omega), List.getElem?_append_left (by omega)]
    · rw [List.append_nil]
      exact hwi.mono (by omega) (by simp)
  · obtain ⟨hfo, hfl⟩ := fields_ok hf hl
    have hr : filO l o = { o with Values := filVs fs o.Values } := by rw [filO, hf]
    have hf1 := hfo.1
    simp -implicitDefEqProofs only [Option.isSome_some, cond_t, cond_f, e1, e2, e1x, e2x, e2w, hov, hoh, one_cells hov, one_cells hoh, List.length_map, tGateFieldS, fldV, GateObject.vs, GateShape.ts, S0, S1, S2, S3, S4, S5, S6, S7, S8, S9, S10, S11, S12, S13, S14, S15, S16, S17, opv, opvs, eget, env0, setD, lenStr, lenSl, isNilP, isNilS, putAt, if_true, if_false, reduceCtorEq, Nat.reduceLeDiff, Nat.reduceEqDiff, Nat.reduceSub, Nat.reduceMul, Nat.reduceAdd]
    obtain ⟨B, hBd⟩ : ∃ B, B = s0 ++ [.box [.t (.str o.Kind), .t (.str o.Name), .t (.str o.Team), v, .t (.bool o.Ending), hd, .t (.int .i64 o.Version)]] := ⟨_, rfl⟩
    obtain ⟨P, hPd⟩ : ∃ P, P = s0.length := ⟨_, rfl⟩
    have hB : B[P]? = some (.box [.t (.str o.Kind), .t (.str o.Name), .t (.str o.Team), v, .t (.bool o.Ending), hd, .t (.int .i64 o.Version)]) := by rw [hBd, hPd]; simp
    have hBl : B.length = P + 1 := by rw [hBd, hPd]; simp
    have hwi1 : ∀ x ∈ i, σ.length + 2 ≤ x ∧ x < P := fun x hx => by have := hwi.2 x (by simp [hx]); omega
    have hPi : P ∉ i := fun h => by have := hwi1 P h; omega
    have hB0 : ∀ x, x < P → B[x]? = s0[x]? := fun x hx => by rw [hBd, List.getElem?_append_left (by omega)]
    have e2B : B[σ.length + 1]? = some (.box [.t (.str []), .t (.str []), .t (.str []), .nils, .t (.bool false), .nils, .t (.int .i64 0)]) := (hB0 _ (by omega)).trans e2
    have hform : o.Values ≠ [] → ∃ id, i = [id] ∧ v = .sl id o.Values.length 0 o.Values.length := fun hne => by
      rcases own_obj hv (strs_flat o.Values) with ⟨h0, _, _⟩ | ⟨id, h1, h2, h3⟩
      · exact (hne (by simpa using h0)).elim
      · rw [List.length_map] at h2; exact ⟨id, h1, h2⟩
    have hiB : ∀ id ∈ i, B[id]? = some (tObj 1 (o.Values.map tStr)) := fun id hid => by
      rcases own_obj hv (strs_flat o.Values) with ⟨_, h1, _⟩ | ⟨id', h1, h2, h3⟩
      · rw [h1] at hid; cases hid
      · rw [h1] at hid
        simp only [List.mem_singleton] at hid
        subst hid
        have := hwi1 id (by rw [h1]; simp)
        rw [hB0 id (by omega)]; exact h3
    rw [← hBd, ← hPd]
    refine loop_g [8, 4, 5, 6] [4, 5, 6] (fun g : Gf => [(8, .t (.int .i64 (g.k : Nat)))]) (fun g => g.s) (fun g => g.k ≤ fs.length ∧ B.length ≤ g.s.length ∧ Kb i B g.s ∧ (∀ id ∈ i, g.s[id]? = some (tObj 1 ((filMid fs o.Values g.k).map tStr)))) (fun g => fs.length - g.k) ⟨0, B⟩ (by omega) ⟨Nat.zero_le _, Nat.le_refl _, fun _ _ _ => rfl, fun id hid => by rw [mid_zero]; exact hiB id hid⟩ rfl rfl ?_
    rintro ⟨k, s⟩ ⟨hk, hle, hkb, hid⟩
    simp only at hk hle hkb hid
    have hsB : s[P]? = some (.box [.t (.str o.Kind), .t (.str o.Name), .t (.str o.Team), v, .t (.bool o.Ending), hd, .t (.int .i64 o.Version)]) := (hkb _ (by omega) hPi).trans hB
    simp -implicitDefEqProofs only [keep, hsB, List.length_map, S0, S1, S2, S3, S4, S5, S6, S7, S8, S9, S10, S11, S12, S13, S14, S15, S16, S17, opv, opvs, eget, env0, setD, lenStr, lenSl, isNilP, isNilS, putAt, if_true, if_false, reduceCtorEq, Nat.reduceLeDiff, Nat.reduceEqDiff, Nat.reduceSub, Nat.reduceMul, Nat.reduceAdd]
    refine cond_split (fun h1 => ?_) (fun h1 => ?_)
    · obtain ⟨x, hx, hlt⟩ := at_of h1
      have hvk : o.Values[k]? = some o.Values[k] := List.getElem?_eq_getElem (by omega)
      obtain ⟨w, hwd⟩ : ∃ w, w = o.Values[k] := ⟨_, rfl⟩
      rw [← hwd] at hvk
      have more := i64_succ (show k < 4611686018427387904 by omega)
      have hne : o.Values ≠ [] := fun e => by rw [e] at hvk; simp at hvk
      obtain ⟨id, hi, hve⟩ := hform hne
      have hidB := hiB id (by rw [hi]; simp)
      have hidk := hid id (by rw [hi]; simp)
      have hidl := (List.getElem?_eq_some_iff.1 hidk).1
      have hPne : id ≠ P := fun e => hPi (by rw [hi, e]; simp)
      have hml := mid_len hfl k
      have hmk := mid_at hfl hvk
      have hms := mid_step hfl hx hvk
      have hrk : (((filMid fs o.Values k).map tStr).map fun r => r.map V.t)[k]? = some [.t (.str w)] := by rw [List.getElem?_map, List.getElem?_map, hmk]; rfl
      have hrl : (((filMid fs o.Values k).map tStr).map fun r => r.map V.t).length = o.Values.length := by rw [List.length_map, List.length_map, hml]
      have kx : k < o.Values.length := by omega
      have kxi : ((k : Nat) : Int) < ((o.Values.length : Nat) : Int) := by omega
      have c0 : (0 : Nat) + 1 ≤ 1 := by omega
      have hsI : s[id]? = some (.slc 1 (((filMid fs o.Values k).map tStr).map fun r => r.map V.t)) := hidk
      have hsBx : ∀ τ : Store, (s ++ τ)[P]? = some (.box [.t (.str o.Kind), .t (.str o.Name), .t (.str o.Team), v, .t (.bool o.Ending), hd, .t (.int .i64 o.Version)]) := fun τ => by rw [List.getElem?_append_left (by omega)]; exact hsB
      have hsIx : ∀ τ : Store, (s ++ τ)[id]? = some (.slc 1 (((filMid fs o.Values k).map tStr).map fun r => r.map V.t)) := fun τ => by rw [List.getElem?_append_left hidl]; exact hsI
      simp -implicitDefEqProofs only [hsB, hsI, hsBx, hsIx, hve, hrk, hrl, kx, kxi, hvk, hx, more, nat_nn, Nat.zero_le, List.getElem?_map, Option.map_some, List.length_map, GateField.ts, tGateFieldS, tStr, S0, S1, S2, S3, S4, S5, S6, S7, S8, S9, S10, S11, S12, S13, S14, S15, S16, S17, opv, opvs, eget, env0, setD, lenStr, lenSl, isNilP, isNilS, putAt, if_true, if_false, reduceCtorEq, Nat.reduceLeDiff, Nat.reduceEqDiff, Nat.reduceSub, Nat.reduceMul, Nat.reduceAdd]
      rcases hw0 : (w == []) with _ | _
      · have hfo : filMid fs o.Values (k + 1) = filMid fs o.Values k := by
          rw [hms]; simp only [filOne, hw0]; exact set_same hmk
        simp -implicitDefEqProofs only [hw0, cond_t, cond_f, hsB, hsI, hsBx, hsIx, hve, hrk, hrl, kx, kxi, hx, more, nat_nn, Nat.zero_le, List.getElem?_map, Option.map_some, List.length_map, GateField.ts, tGateFieldS, tStr, S0, S1, S2, S3, S4, S5, S6, S7, S8, S9, S10, S11, S12, S13, S14, S15, S16, S17, opv, opvs, eget, env0, setD, lenStr, lenSl, isNilP, isNilS, putAt, if_true, if_false, reduceCtorEq, Nat.reduceLeDiff, Nat.reduceEqDiff, Nat.reduceSub, Nat.reduceMul, Nat.reduceAdd]
        refine lk_g ⟨k + 1, s⟩ (by simp only; omega) ⟨by simp only; omega, by first | omega | (simp; done) | (simp; omega), fun y hy hyi => ?_, fun y hy => ?_⟩ (by first | omega | (simp; done) | (simp; omega)) rfl rfl
        · exact hkb y hy hyi
        · skip
          simp only
          rw [hfo]
          exact hid y hy
      · have hfo : filMid fs o.Values (k + 1) = (filMid fs o.Values k).set k x.Default := by
          rw [hms]; simp only [filOne, hw0, if_true]
        simp -implicitDefEqProofs only [hw0, cond_t, cond_f, hsB, hsI, hsBx, hsIx, hve, hrk, hrl, kx, kxi, c0, hx, more, nat_nn, Nat.zero_le, List.getElem?_map, Option.map_some, List.length_map, GateField.ts, tGateFieldS, tStr, S0, S1, S2, S3, S4, S5, S6, S7, S8, S9, S10, S11, S12, S13, S14, S15, S16, S17, opv, opvs, eget, env0, setD, lenStr, lenSl, isNilP, isNilS, putAt, if_true, if_false, reduceCtorEq, Nat.reduceLeDiff, Nat.reduceEqDiff, Nat.reduceSub, Nat.reduceMul, Nat.reduceAdd]
        rw [tObj_set, ← hfo]
        refine lk_g ⟨k + 1, (s).set id (tObj 1 ((filMid fs o.Values (k + 1)).map tStr))⟩ (by simp only; omega) ⟨by simp only; omega, by first | omega | (simp; done) | (simp; omega), fun y hy hyi => ?_, fun y hy => ?_⟩ (by first | omega | (simp; done) | (simp; omega)) rfl rfl
        · have hyn : id ≠ y := fun e => hyi (by rw [hi, ← e]; simp)
          simp only
          rw [List.getElem?_set_ne hyn]
          exact hkb y hy hyi
        · rw [hi] at hy
          simp only [List.mem_singleton] at hy
          subst hy
          exact List.getElem?_set_self (by first | omega | (simp; done) | (simp; omega))
    have hkk := end_of h1 hk
    subst hkk
    clear h1 hk
    have e2s : s[σ.length + 1]? = some (.box [.t (.str []), .t (.str []), .t (.str []), .nils, .t (.bool false), .nils, .t (.int .i64 0)]) := (hkb _ (by omega) (fun h => by have := hwi1 _ h; omega)).trans e2B
    have e2t : ∀ x : Go.Ab.Obj, (s.set (σ.length + 1) x)[σ.length + 1]? = some x := fun x => List.getElem?_set_self (by omega)
    simp -implicitDefEqProofs only [hsB, e2s, e2t, hov, hoh, one_cells hov, one_cells hoh, S0, S1, S2, S3, S4, S5, S6, S7, S8, S9, S10, S11, S12, S13, S14, S15, S16, S17, opv, opvs, eget, env0, setD, lenStr, lenSl, isNilP, isNilS, putAt, if_true, if_false, reduceCtorEq, Nat.reduceLeDiff, Nat.reduceEqDiff, Nat.reduceSub, Nat.reduceMul, Nat.reduceAdd]
    have hvF : Own s (tStrs (filVs fs o.Values)) v i := by
      rcases own_obj hv (strs_flat o.Values) with ⟨h0, h1, h2⟩ | ⟨id, h1, h2, h3⟩
      · have h0' : o.Values = [] := by simpa using h0
        subst h1
        have : filVs fs o.Values = [] := by rw [h0']; simp [filVs]
        rw [this]; rcases h2 with rfl | rfl <;> simp [Own, tStrs]
      · have := hid id (by rw [h1]; simp)
        rw [mid_all hfl] at this
        rw [List.length_map] at h2
        rw [h1, h2]
        exact own_strs this (by simp [filVs]; omega)
    have hnd : ∀ x ∈ j, x ∉ i := fun x hx hi => by
      have := hwi.1
      rw [List.nodup_append] at this
      exact this.2.2 x hi x hx rfl
    have hjF : Own s (tStrs o.Holds) hd j := hhd.frame fun x hx => by
      have := hwi.2 x (by simp [hx])
      rw [hkb x (by omega) (hnd x hx), hB0 x (by omega)]
    have KS : Kp σ s := fun x hx => by
      rw [hkb x (by omega) (fun h => by have := hwi1 _ h; omega), hB0 x (by omega)]
      exact K0 x hx
    rw [hr]
    refine fin_keep (by simp; omega) ⟨_, _, i ++ (j ++ []), rfl, kp_split (KS.set (by omega)) (by simp; omega), ?_, ?_⟩
    · refine OwnL.frame (own_7 (o := { o with Values := filVs fs o.Values }) hvF hjF) fun x hx => ?_
      have hx1 := hwi.2 x (by simpa using hx)
      rw [List.getElem?_set_ne (by omega)]
    · rw [List.append_nil]
      exact hwi.mono (by omega) (by simp; omega)

def c_spec_GateFill : C := (.seq (.ops [⟨(some 3), none, (.box (.t 1))⟩, ⟨(some 4), none, (.new [(.t (.str [])), (.t (.str [])), (.t (.str [])), .nils, (.t (.bool false)), .nils, (.t (.int .i64 0))])⟩]) (.seq (.seq (.ops [⟨(some 5), none, (.mv (.t 0))⟩, ⟨(some 6), none, (.call (.c (.fn (.func 51) [])) [(.t 5)])⟩, ⟨(some 7), none, (.un .not (.t 6))⟩]) (.cond (.t 7) (.seq (.ops [⟨(some 8), none, (.load (some 7) (.t 3))⟩, ⟨(some 9), none, (.call (.c (.fn (.func 112) [])) [(.t 8)])⟩, ⟨none, none, (.store 7 (.t 4) (.t 9))⟩]) .ret) .skip)) (.seq (.ops [⟨(some 10), none, (.mv (.t 0))⟩, ⟨(some 11), none, (.load (some 7) (.t 3))⟩, ⟨(some 12), none, (.call (.c (.fn (.func 113) [])) [(.t 10), (.t 11)])⟩, ⟨none, none, (.store 7 (.t 4) (.t 12))⟩]) .ret)))
theorem k_spec_GateFill : comp Try.prog 13 (Try.f55.body.getD .skip) = some c_spec_GateFill := by kernel_rfl

set_option maxHeartbeats 8000000 in
theorem spec_GateFillO (l : List GateShape) (hl : GateShape.OkS l) (o : GateObject) (ho : o.Ok) (σ : Store) : ACalls Try.prog 55 [.t (tGateShapeS l), .agg o.vs] σ (ToLR (filR l o).ts σ) := by
  refine acalls_of Try.func55 (by decide +kernel) (code := Try.f55.body.getD .skip) (n := 13) (c := c_spec_GateFill) (rs := [(.cell 4 (some 7))]) rfl rfl k_spec_GateFill (by kernel_rfl) (by simp) (fun hσ => ?_)
  simp -implicitDefEqProofs only [c_spec_GateFill, GateObject.vs, S0, S1, S2, S3, S4, S5, S6, S7, S8, S9, S10, S11, S12, S13, S14, S15, S16, S17, opv, opvs, eget, env0, setD, lenStr, lenSl, isNilP, isNilS, putAt, if_true, if_false, reduceCtorEq, Nat.reduceLeDiff, Nat.reduceEqDiff, Nat.reduceSub, Nat.reduceMul, Nat.reduceAdd]
  rw [← GateObject.vs]
  refine call_pure (spec_GateShapesOk l hl _) ?_
  rcases hg : shapesG l with _ | _
  · have hr : filR l o = o := by rw [filR, hg]; rfl
    simp -implicitDefEqProofs only [cond_t, cond_f, Bool.not_false, S0, S1, S2, S3, S4, S5, S6, S7, S8, S9, S10, S11, S12, S13, S14, S15, S16, S17, opv, opvs, eget, env0, setD, lenStr, lenSl, isNilP, isNilS, putAt, if_true, if_false, reduceCtorEq, Nat.reduceLeDiff, Nat.reduceEqDiff, Nat.reduceSub, Nat.reduceMul, Nat.reduceAdd]
    refine call_newL (spec_l2Copy o ho _) ?_
    intro us s0 is hle k0 hown hwi
    obtain ⟨v, hd, i, j, rfl, rfl, hv, hhd⟩ := own_7_inv hown
    have hov := hv.one
    have hoh := hhd.one
    simp only [List.length_append, List.length_cons, List.length_nil] at hle hwi
    have e2 := k0 (σ.length + 1) (by simp)
    simp -implicitDefEqProofs only [S0, S1, S2, S3, S4, S5, S6, S7, S8, S9, S10, S11, S12, S13, S14, S15, S16, S17, opv, opvs, eget, env0, setD, lenStr, lenSl, isNilP, isNilS, putAt, if_true, if_false, reduceCtorEq, Nat.reduceLeDiff, Nat.reduceEqDiff, Nat.reduceSub, Nat.reduceMul, Nat.reduceAdd] at e2
    have e2t : ∀ x : Go.Ab.Obj, (s0.set (σ.length + 1) x)[σ.length + 1]? = some x := fun x => List.getElem?_set_self (by omega)
    have K0 : Kp σ s0 := fun x hx => by rw [k0 x (by simp; omega), List.getElem?_append_left hx]
    simp -implicitDefEqProofs only [e2, e2t, hov, hoh, one_cells hov, one_cells hoh, S0, S1, S2, S3, S4, S5, S6, S7, S8, S9, S10, S11, S12, S13, S14, S15, S16, S17, opv, opvs, eget, env0, setD, lenStr, lenSl, isNilP, isNilS, putAt, if_true, if_false, reduceCtorEq, Nat.reduceLeDiff, Nat.reduceEqDiff, Nat.reduceSub, Nat.reduceMul, Nat.reduceAdd]
    rw [hr]
    refine fin_keep (by simp; omega) ⟨_, _, i ++ j, rfl, kp_split (K0.set (by omega)) (by simp; omega), ?_, hwi.mono (by omega) (by simp)⟩
    refine OwnL.frame hown fun x hx => ?_
    have hx1 := hwi.2 x hx
    rw [List.getElem?_set_ne (by omega)]
  · have hr : filR l o = filO l o := by rw [filR, hg]; rfl
    simp -implicitDefEqProofs only [cond_t, cond_f, Bool.not_true, S0, S1, S2, S3, S4, S5, S6, S7, S8, S9, S10, S11, S12, S13, S14, S15, S16, S17, opv, opvs, eget, env0, setD, lenStr, lenSl, isNilP, isNilS, putAt, if_true, if_false, reduceCtorEq, Nat.reduceLeDiff, Nat.reduceEqDiff, Nat.reduceSub, Nat.reduceMul, Nat.reduceAdd]
    refine call_newL (spec_l2Fill l hl o ho _) ?_
    intro us s0 is hle k0 hown hwi
    obtain ⟨v, hd, i, j, rfl, rfl, hv, hhd⟩ := own_7_inv hown
    have hov := hv.one
    have hoh := hhd.one
    simp only [List.length_append, List.length_cons, List.length_nil] at hle hwi
    have e2 := k0 (σ.length + 1) (by simp)
    simp -implicitDefEqProofs only [S0, S1, S2, S3, S4, S5, S6, S7, S8, S9, S10, S11, S12, S13, S14, S15, S16, S17, opv, opvs, eget, env0, setD, lenStr, lenSl, isNilP, isNilS, putAt, if_true, if_false, reduceCtorEq, Nat.reduceLeDiff, Nat.reduceEqDiff, Nat.reduceSub, Nat.reduceMul, Nat.reduceAdd] at e2
    have e2t : ∀ x : Go.Ab.Obj, (s0.set (σ.length + 1) x)[σ.length + 1]? = some x := fun x => List.getElem?_set_self (by omega)
    have K0 : Kp σ s0 := fun x hx => by rw [k0 x (by simp; omega), List.getElem?_append_left hx]
    simp -implicitDefEqProofs only [e2, e2t, hov, hoh, one_cells hov, one_cells hoh, S0, S1, S2, S3, S4, S5, S6, S7, S8, S9, S10, S11, S12, S13, S14, S15, S16, S17, opv, opvs, eget, env0, setD, lenStr, lenSl, isNilP, isNilS, putAt, if_true, if_false, reduceCtorEq, Nat.reduceLeDiff, Nat.reduceEqDiff, Nat.reduceSub, Nat.reduceMul, Nat.reduceAdd]
    rw [hr]
    refine fin_keep (by simp; omega) ⟨_, _, i ++ j, rfl, kp_split (K0.set (by omega)) (by simp; omega), ?_, hwi.mono (by omega) (by simp)⟩
    refine OwnL.frame hown fun x hx => ?_
    have hx1 := hwi.2 x hx
    rw [List.getElem?_set_ne (by omega)]

theorem impl_fieldsOfV (l : List GateShape) (hl : l.length ≤ 1048576) (o : GateObject) (v hd : V) (hlv : lenSl v = some o.Values.length) (hov : one v = true) (hoh : one hd = true)  (σ : Store) : ACalls Try.prog 104 [.t (tGateShapeS l), .agg ([.t (.str o.Kind), .t (.str o.Name), .t (.str o.Team), v, .t (.bool o.Ending), hd, .t (.int .i64 o.Version)])] σ fun rr σ' => rr = .tup [fldV .nils (fieldsR l o), .t (.bool (fieldsR l o).isSome)] ∧ σ' = σ := by
  refine acalls_of Try.func104 (by decide +kernel) (code := Try.f104.body.getD .skip) (n := 30) (c := c_impl_fieldsOf) (rs := [(.tmp 4), (.tmp 5)]) rfl rfl k_impl_fieldsOf (by kernel_rfl) (by simp) (fun hσ => ?_)
  have hh : True := trivial
  have fin : ∀ {a b : V} {τ : Store}, V.tup [a, b] = .tup [fldV .nils (fieldsR l o), .t (.bool (fieldsR l o).isSome)] → (V.tup [a, b]).lt σ.length = true → retV σ.length (fun rr σ' => rr = .tup [fldV .nils (fieldsR l o), .t (.bool (fieldsR l o).isSome)] ∧ σ' = σ) (σ ++ τ) (some [a, b]) := fun h h2 => ret_same rfl hσ h2 ⟨h, rfl⟩
  have fin0 : ∀ {a b : V}, V.tup [a, b] = .tup [fldV .nils (fieldsR l o), .t (.bool (fieldsR l o).isSome)] → retV σ.length (fun rr σ' => rr = .tup [fldV .nils (fieldsR l o), .t (.bool (fieldsR l o).isSome)] ∧ σ' = σ) σ (some [a, b]) := fun h => ret_same0 rfl ⟨h, rfl⟩
  have hlv' := hlv
  simp only [lenSl] at hlv'
  simp -implicitDefEqProofs only [c_impl_fieldsOf, nat_nn, Nat.zero_le, List.getElem?_map, Option.map_some, List.length_map, GateShape.ts, GateShape.vs, hov, hoh, hlv, one_cells hov, one_cells hoh, S0, S1, S2, S3, S4, S5, S6, S7, S8, S9, S10, S11, S12, S13, S14, S15, S16, S17, opv, opvs, eget, env0, setD, lenStr, lenSl, isNilP, isNilS, putAt, if_true, if_false, reduceCtorEq, Nat.reduceLeDiff, Nat.reduceEqDiff, Nat.reduceSub, Nat.reduceMul, Nat.reduceAdd]
  refine call_pure (impl_shapeOf l hl o.Kind _) ?_
  rcases fields_two l o with ⟨h1, h2⟩ | ⟨i, s, hg, h1, ⟨h2, h3⟩ | ⟨h2, h3⟩⟩
  · have d1 : decide ((-1 : Int) < 0) = true := rfl
    rw [h1]
    simp -implicitDefEqProofs only [d1, cond_t, cond_f, nat_nn, Nat.zero_le, List.getElem?_map, Option.map_some, List.length_map, GateShape.ts, GateShape.vs, S0, S1, S2, S3, S4, S5, S6, S7, S8, S9, S10, S11, S12, S13, S14, S15, S16, S17, opv, opvs, eget, env0, setD, lenStr, lenSl, isNilP, isNilS, putAt, if_true, if_false, reduceCtorEq, Nat.reduceLeDiff, Nat.reduceEqDiff, Nat.reduceSub, Nat.reduceMul, Nat.reduceAdd]
    first | exact fin0 (by rw [h2]; rfl) | exact fin (by rw [h2]; rfl) rfl
  · have d1 : decide (((i : Nat) : Int) < 0) = false := by simp
    have b1 : (((o.Values.length : Nat) : Int) == ((s.Fields.length : Nat) : Int)) = false := by simp; omega
    have b4 : (((o.Values.length : Nat) : Int) != ((s.Fields.length : Nat) : Int)) = true := by rw [bne, b1]; rfl
    rw [h1]
    simp -implicitDefEqProofs only [d1, b4, cond_t, cond_f, tGateShapeS, hg, hlv', hov, hoh, nat_nn, Nat.zero_le, List.getElem?_map, Option.map_some, List.length_map, GateShape.ts, GateShape.vs, S0, S1, S2, S3, S4, S5, S6, S7, S8, S9, S10, S11, S12, S13, S14, S15, S16, S17, opv, opvs, eget, env0, setD, lenStr, lenSl, isNilP, isNilS, putAt, if_true, if_false, reduceCtorEq, Nat.reduceLeDiff, Nat.reduceEqDiff, Nat.reduceSub, Nat.reduceMul, Nat.reduceAdd]
    first | exact fin0 (by rw [h3]; rfl) | exact fin (by rw [h3]; rfl) rfl
  · have d1 : decide (((i : Nat) : Int) < 0) = false := by simp
    have b1 : (((o.Values.length : Nat) : Int) == ((s.Fields.length : Nat) : Int)) = true := by simp; omega
    have b4 : (((o.Values.length : Nat) : Int) != ((s.Fields.length : Nat) : Int)) = false := by rw [bne, b1]; rfl
    rw [h1]
    simp -implicitDefEqProofs only [d1, b4, cond_t, cond_f, tGateShapeS, hg, hlv', hov, hoh, nat_nn, Nat.zero_le, List.getElem?_map, Option.map_some, List.length_map, GateShape.ts, GateShape.vs, S0, S1, S2, S3, S4, S5, S6, S7, S8, S9, S10, S11, S12, S13, S14, S15, S16, S17, opv, opvs, eget, env0, setD, lenStr, lenSl, isNilP, isNilS, putAt, if_true, if_false, reduceCtorEq, Nat.reduceLeDiff, Nat.reduceEqDiff, Nat.reduceSub, Nat.reduceMul, Nat.reduceAdd]
    first | exact fin0 (by rw [h3]; rfl) | exact fin (by rw [h3]; rfl) rfl

def c_impl_GateFill : C := (.seq (.ops [⟨(some 3), none, (.box (.t 1))⟩, ⟨(some 4), none, (.new [(.t (.str [])), (.t (.str [])), (.t (.str [])), .nils, (.t (.bool false)), .nils, (.t (.int .i64 0))])⟩]) (.seq (.ops [⟨(some 9), none, (.load (some 7) (.t 3))⟩, ⟨(some 10), none, (.call (.c (.fn (.func 114) [])) [(.t 9)])⟩, ⟨none, none, (.store 7 (.t 3) (.t 10))⟩]) (.seq (.ops [⟨(some 12), none, (.mv (.t 0))⟩, ⟨(some 13), none, (.load (some 7) (.t 3))⟩, ⟨(some 14), none, (.call (.c (.fn (.func 104) [])) [(.t 12), (.t 13)])⟩, ⟨(some 11), none, (.mv (.t 14))⟩, ⟨(some 15), none, (.extract (.t 11) 0)⟩, ⟨(some 16), none, (.extract (.t 11) 1)⟩, ⟨(some 5), none, (.mv (.t 15))⟩, ⟨(some 6), none, (.mv (.t 16))⟩]) (.seq (.seq (.ops [⟨(some 17), none, (.mv (.t 6))⟩, ⟨(some 18), none, (.un .not (.t 17))⟩, ⟨(some 19), none, (.mv (.t 18))⟩, ⟨(some 20), (some ⟨19, false⟩), (.mv (.t 0))⟩, ⟨(some 21), (some ⟨19, false⟩), (.call (.c (.fn (.func 53) [])) [(.t 20)])⟩, ⟨(some 22), (some ⟨19, false⟩), (.un .not (.t 21))⟩, ⟨(some 23), none, (.pick (.t 19) (.c (.t (.bool true))) (.t 22))⟩]) (.cond (.t 23) (.seq (.ops [⟨(some 24), none, (.load (some 7) (.t 3))⟩, ⟨none, none, (.store 7 (.t 4) (.t 24))⟩]) .ret) .skip)) (.seq (.seq (.ops [⟨(some 25), none, (.mv (.t 5))⟩, ⟨(some 26), none, (.len false (.t 25))⟩, ⟨(some 27), none, (.mv (.c (.t (.int .i64 0))))⟩]) (.block 0 (.loop (.seq (.ops [⟨(some 28), none, (.bin .lss (.t 27) (.t 26))⟩]) (.seq (.cond (.t 28) .skip (.exit 0)) (.seq (.block 1 (.seq (.ops [⟨(some 29), none, (.mv (.t 27))⟩, ⟨(some 30), none, (.indexAddr 11 (.t 25) (.t 27))⟩, ⟨(some 31), none, (.load (some 11) (.t 30))⟩, ⟨(some 8), none, (.new [(.t (.str [])), (.t (.int .i64 0)), (.t (.int .i64 0)), (.t (.int .i64 0)), .nils, (.t (.str [])), (.t (.int .i64 0)), (.t (.bool false)), (.t (.bool false)), (.t (.str [])), (.t (.str []))])⟩, ⟨(some 7), none, (.mv (.t 29))⟩, ⟨none, none, (.store 11 (.t 8) (.t 31))⟩]) (.seq (.ops [⟨(some 32), none, (.fieldAddr 3 (.t 3))⟩, ⟨(some 33), none, (.load none (.t 32))⟩, ⟨(some 34), none, (.mv (.t 7))⟩, ⟨(some 35), none, (.indexAddr 1 (.t 33) (.t 34))⟩, ⟨(some 36), none, (.load none (.t 35))⟩, ⟨(some 37), none, (.bin .eql (.t 36) (.c (.t (.str []))))⟩]) (.cond (.t 37) (.ops [⟨(some 38), none, (.fieldAddr 3 (.t 3))⟩, ⟨(some 39), none, (.load none (.t 38))⟩, ⟨(some 40), none, (.mv (.t 7))⟩, ⟨(some 41), none, (.fieldAddr 9 (.t 8))⟩, ⟨(some 42), none, (.load none (.t 41))⟩, ⟨(some 43), none, (.indexAddr 1 (.t 39) (.t 40))⟩, ⟨none, none, (.store 1 (.t 43) (.t 42))⟩]) .skip)))) (.ops [⟨(some 44), none, (.bin .add (.t 27) (.c (.t (.int .i64 1))))⟩, ⟨(some 27), none, (.mv (.t 44))⟩]))))))) (.seq (.ops [⟨(some 45), none, (.load (some 7) (.t 3))⟩, ⟨none, none, (.store 7 (.t 4) (.t 45))⟩]) .ret))))))
theorem k_impl_GateFill : comp Try.prog 46 (Try.f56.body.getD .skip) = some c_impl_GateFill := by kernel_rfl

set_option maxHeartbeats 8000000 in
theorem impl_GateFillO (l : List GateShape) (hl : GateShape.OkS l) (o : GateObject) (ho : o.Ok) (σ : Store) : ACalls Try.prog 56 [.t (tGateShapeS l), .agg o.vs] σ (ToLR (filR l o).ts σ) := by
  refine acalls_of Try.func56 (by decide +kernel) (code := Try.f56.body.getD .skip) (n := 46) (c := c_impl_GateFill) (rs := [(.cell 4 (some 7))]) rfl rfl k_impl_GateFill (by kernel_rfl) (by simp) (fun hσ => ?_)
  simp -implicitDefEqProofs only [c_impl_GateFill, GateObject.vs, S0, S1, S2, S3, S4, S5, S6, S7, S8, S9, S10, S11, S12, S13, S14, S15, S16, S17, opv, opvs, eget, env0, setD, lenStr, lenSl, isNilP, isNilS, putAt, if_true, if_false, reduceCtorEq, Nat.reduceLeDiff, Nat.reduceEqDiff, Nat.reduceSub, Nat.reduceMul, Nat.reduceAdd]
  rw [← GateObject.vs]
  refine call_newL (impl_twin o ho _) ?_
  intro us s0 is hle k0 hown hwi
  obtain ⟨v, hd, i, j, rfl, rfl, hv, hhd⟩ := own_7_inv hown
  have hov := hv.one
  have hoh := hhd.one
  simp only [List.length_append, List.length_cons, List.length_nil] at hle hwi
  have e1 := k0 σ.length (by simp)
  have e2 := k0 (σ.length + 1) (by simp)
  simp -implicitDefEqProofs only [GateObject.vs, S0, S1, S2, S3, S4, S5, S6, S7, S8, S9, S10, S11, S12, S13, S14, S15, S16, S17, opv, opvs, eget, env0, setD, lenStr, lenSl, isNilP, isNilS, putAt, if_true, if_false, reduceCtorEq, Nat.reduceLeDiff, Nat.reduceEqDiff, Nat.reduceSub, Nat.reduceMul, Nat.reduceAdd] at e1 e2
  have K0 : Kp σ s0 := fun x hx => by rw [k0 x (by simp; omega), List.getElem?_append_left hx]
  simp -implicitDefEqProofs only [e1, e2, hov, hoh, one_cells hov, one_cells hoh, S0, S1, S2, S3, S4, S5, S6, S7, S8, S9, S10, S11, S12, S13, S14, S15, S16, S17, opv, opvs, eget, env0, setD, lenStr, lenSl, isNilP, isNilS, putAt, if_true, if_false, reduceCtorEq, Nat.reduceLeDiff, Nat.reduceEqDiff, Nat.reduceSub, Nat.reduceMul, Nat.reduceAdd]
  obtain ⟨B, hBd⟩ : ∃ B, B = s0.set σ.length (.box [.t (.str o.Kind), .t (.str o.Name), .t (.str o.Team), v, .t (.bool o.Ending), hd, .t (.int .i64 o.Version)]) := ⟨_, rfl⟩
  obtain ⟨P, hPd⟩ : ∃ P, P = σ.length := ⟨_, rfl⟩
  have hB : B[P]? = some (.box [.t (.str o.Kind), .t (.str o.Name), .t (.str o.Team), v, .t (.bool o.Ending), hd, .t (.int .i64 o.Version)]) := by rw [hBd, hPd]; exact List.getElem?_set_self (by omega)
  have hBl : B.length = s0.length := by rw [hBd, List.length_set]
  have hwi1 : ∀ x ∈ i, σ.length + 2 ≤ x ∧ x < s0.length := fun x hx => by have := hwi.2 x (by simp [hx]); omega
  have hPi : P ∉ i := fun h => by have := hwi1 P h; omega
  have hB0 : ∀ x, x ≠ P → B[x]? = s0[x]? := fun x hx => by rw [hBd, List.getElem?_set_ne (by omega)]
  have e2B : B[P + 1]? = some (.box [.t (.str []), .t (.str []), .t (.str []), .nils, .t (.bool false), .nils, .t (.int .i64 0)]) := (hB0 _ (by omega)).trans (by rw [hPd]; exact e2)
  have hownB : OwnL B o.ts [.t (.str o.Kind), .t (.str o.Name), .t (.str o.Team), v, .t (.bool o.Ending), hd, .t (.int .i64 o.Version)] (i ++ j) := hown.frame fun x hx => hB0 x (by have := hwi.2 x hx; omega)
  have KB : Kp σ B := by rw [hBd]; exact K0.set (by omega)
  have hlv : lenSl v = some o.Values.length := by
    rcases own_obj hv (strs_flat o.Values) with ⟨h0, _, h2⟩ | ⟨id, h1, h2, h3⟩
    · have h0' : o.Values = [] := by simpa using h0
      rw [h0']; rcases h2 with rfl | rfl <;> rfl
    · rw [h2, List.length_map]; rfl
  rw [← hBd, ← hPd]
  simp -implicitDefEqProofs only [hB, e2B, S0, S1, S2, S3, S4, S5, S6, S7, S8, S9, S10, S11, S12, S13, S14, S15, S16, S17, opv, opvs, eget, env0, setD, lenStr, lenSl, isNilP, isNilS, putAt, if_true, if_false, reduceCtorEq, Nat.reduceLeDiff, Nat.reduceEqDiff, Nat.reduceSub, Nat.reduceMul, Nat.reduceAdd]
  refine call_pure (impl_fieldsOfV l hl.1 o v hd hlv hov hoh _) ?_
  have e2t : ∀ x : Go.Ab.Obj, (B.set (P + 1) x)[P + 1]? = some x := fun x => List.getElem?_set_self (by omega)
  rcases hf : fieldsR l o with _ | fs
  · have hr : filR l o = o := by
      rw [filR]; split
      · rw [filO, hf]
      · rfl
    rw [hr]
    simp -implicitDefEqProofs only [Option.isSome_none, cond_t, cond_f, hB, e2B, e2t, hov, hoh, one_cells hov, one_cells hoh, fldV, GateObject.vs, GateShape.ts, S0, S1, S2, S3, S4, S5, S6, S7, S8, S9, S10, S11, S12, S13, S14, S15, S16, S17, opv, opvs, eget, env0, setD, lenStr, lenSl, isNilP, isNilS, putAt, if_true, if_false, reduceCtorEq, Nat.reduceLeDiff, Nat.reduceEqDiff, Nat.reduceSub, Nat.reduceMul, Nat.reduceAdd]
    refine fin_keep (by simp; omega) ⟨_, _, i ++ (j ++ []), rfl, kp_split (KB.set (by omega)) (by simp; omega), ?_, ?_⟩
    · rw [List.append_nil]
      refine OwnL.frame hownB fun x hx => ?_
      have hx1 := hwi.2 x hx
      rw [List.getElem?_set_ne (by omega)]
    · rw [List.append_nil]
      exact hwi.mono (by omega) (by simp; omega)
  · simp -implicitDefEqProofs only [Option.isSome_some, cond_t, cond_f, hB, e2B, hov, hoh, one_cells hov, one_cells hoh, fldV, GateObject.vs, GateShape.ts, S0, S1, S2, S3, S4, S5, S6, S7, S8, S9, S10, S11, S12, S13, S14, S15, S16, S17, opv, opvs, eget, env0, setD, lenStr, lenSl, isNilP, isNilS, putAt, if_true, if_false, reduceCtorEq, Nat.reduceLeDiff, Nat.reduceEqDiff, Nat.reduceSub, Nat.reduceMul, Nat.reduceAdd]
    refine call_pure (impl_GateShapesOk l hl _) ?_
    rcases hg : shapesG l with _ | _
    · have hr : filR l o = o := by rw [filR, hg]; rfl
      rw [hr]
      simp -implicitDefEqProofs only [cond_t, cond_f, hB, e2B, e2t, hov, hoh, one_cells hov, one_cells hoh, fldV, GateObject.vs, GateShape.ts, S0, S1, S2, S3, S4, S5, S6, S7, S8, S9, S10, S11, S12, S13, S14, S15, S16, S17, opv, opvs, eget, env0, setD, lenStr, lenSl, isNilP, isNilS, putAt, if_true, if_false, reduceCtorEq, Nat.reduceLeDiff, Nat.reduceEqDiff, Nat.reduceSub, Nat.reduceMul, Nat.reduceAdd]
      refine fin_keep (by simp; omega) ⟨_, _, i ++ (j ++ []), rfl, kp_split (KB.set (by omega)) (by simp; omega), ?_, ?_⟩
      · rw [List.append_nil]
        refine OwnL.frame hownB fun x hx => ?_
        have hx1 := hwi.2 x hx
        rw [List.getElem?_set_ne (by omega)]
      · rw [List.append_nil]
        exact hwi.mono (by omega) (by simp; omega)
    obtain ⟨hfo, hfl⟩ := fields_ok hf hl
    have hr : filR l o = { o with Values := filVs fs o.Values } := by rw [filR, hg, if_pos rfl, filO, hf]
    have hf1 := hfo.1
    simp -implicitDefEqProofs only [cond_t, cond_f, hB, e2B, hov, hoh, one_cells hov, one_cells hoh, List.length_map, tGateFieldS, fldV, GateObject.vs, GateShape.ts, S0, S1, S2, S3, S4, S5, S6, S7, S8, S9, S10, S11, S12, S13, S14, S15, S16, S17, opv, opvs, eget, env0, setD, lenStr, lenSl, isNilP, isNilS, putAt, if_true, if_false, reduceCtorEq, Nat.reduceLeDiff, Nat.reduceEqDiff, Nat.reduceSub, Nat.reduceMul, Nat.reduceAdd]
    have hform : o.Values ≠ [] → ∃ id, i = [id] ∧ v = .sl id o.Values.length 0 o.Values.length := fun hne => by
      rcases own_obj hv (strs_flat o.Values) with ⟨h0, _, _⟩ | ⟨id, h1, h2, h3⟩
      · exact (hne (by simpa using h0)).elim
      · rw [List.length_map] at h2; exact ⟨id, h1, h2⟩
    have hiB : ∀ id ∈ i, B[id]? = some (tObj 1 (o.Values.map tStr)) := fun id hid => by
      rcases own_obj hv (strs_flat o.Values) with ⟨_, h1, _⟩ | ⟨id', h1, h2, h3⟩
      · rw [h1] at hid; cases hid
      · rw [h1] at hid
        simp only [List.mem_singleton] at hid
        subst hid
        have := hwi1 id (by rw [h1]; simp)
        rw [hB0 id (by omega)]; exact h3
    refine loop_g [27, 3, 4, 25, 26] [3, 4, 25, 26] (fun g : Gf => [(27, .t (.int .i64 (g.k : Nat)))]) (fun g => g.s) (fun g => g.k ≤ fs.length ∧ B.length ≤ g.s.length ∧ Kb i B g.s ∧ (∀ id ∈ i, g.s[id]? = some (tObj 1 ((filMid fs o.Values g.k).map tStr)))) (fun g => fs.length - g.k) ⟨0, B⟩ (by omega) ⟨Nat.zero_le _, Nat.le_refl _, fun _ _ _ => rfl, fun id hid => by rw [mid_zero]; exact hiB id hid⟩ rfl rfl ?_
    rintro ⟨k, s⟩ ⟨hk, hle, hkb, hid⟩
    simp only at hk hle hkb hid
    have hsB : s[P]? = some (.box [.t (.str o.Kind), .t (.str o.Name), .t (.str o.Team), v, .t (.bool o.Ending), hd, .t (.int .i64 o.Version)]) := (hkb _ (by omega) hPi).trans hB
    simp -implicitDefEqProofs only [keep, hsB, List.length_map, S0, S1, S2, S3, S4, S5, S6, S7, S8, S9, S10, S11, S12, S13, S14, S15, S16, S17, opv, opvs, eget, env0, setD, lenStr, lenSl, isNilP, isNilS, putAt, if_true, if_false, reduceCtorEq, Nat.reduceLeDiff, Nat.reduceEqDiff, Nat.reduceSub, Nat.reduceMul, Nat.reduceAdd]
    refine cond_split (fun h1 => ?_) (fun h1 => ?_)
    · obtain ⟨x, hx, hlt⟩ := at_of h1
      have hvk : o.Values[k]? = some o.Values[k] := List.getElem?_eq_getElem (by omega)
      obtain ⟨w, hwd⟩ : ∃ w, w = o.Values[k] := ⟨_, rfl⟩
      rw [← hwd] at hvk
      have more := i64_succ (show k < 4611686018427387904 by omega)
      have hne : o.Values ≠ [] := fun e => by rw [e] at hvk; simp at hvk
      obtain ⟨id, hi, hve⟩ := hform hne
      have hidB := hiB id (by rw [hi]; simp)
      have hidk := hid id (by rw [hi]; simp)
      have hidl := (List.getElem?_eq_some_iff.1 hidk).1
      have hPne : id ≠ P := fun e => hPi (by rw [hi, e]; simp)
      have hml := mid_len hfl k
      have hmk := mid_at hfl hvk
      have hms := mid_step hfl hx hvk
      have hrk : (((filMid fs o.Values k).map tStr).map fun r => r.map V.t)[k]? = some [.t (.str w)] := by rw [List.getElem?_map, List.getElem?_map, hmk]; rfl
      have hrl : (((filMid fs o.Values k).map tStr).map fun r => r.map V.t).length = o.Values.length := by rw [List.length_map, List.length_map, hml]
      have kx : k < o.Values.length := by omega
      have kxi : ((k : Nat) : Int) < ((o.Values.length : Nat) : Int) := by omega
      have c0 : (0 : Nat) + 1 ≤ 1 := by omega
      have hsI : s[id]? = some (.slc 1 (((filMid fs o.Values k).map tStr).map fun r => r.map V.t)) := hidk
      have hsBx : ∀ τ : Store, (s ++ τ)[P]? = some (.box [.t (.str o.Kind), .t (.str o.Name), .t (.str o.Team), v, .t (.bool o.Ending), hd, .t (.int .i64 o.Version)]) := fun τ => by rw [List.getElem?_append_left (by omega)]; exact hsB
      have hsIx : ∀ τ : Store, (s ++ τ)[id]? = some (.slc 1 (((filMid fs o.Values k).map tStr).map fun r => r.map V.t)) := fun τ => by rw [List.getElem?_append_left hidl]; exact hsI
      simp -implicitDefEqProofs only [hsB, hsI, hsBx, hsIx, hve, hrk, hrl, kx, kxi, hvk, hx, more, nat_nn, Nat.zero_le, List.getElem?_map, Option.map_some, List.length_map, GateField.ts, tGateFieldS, tStr, S0, S1, S2, S3, S4, S5, S6, S7, S8, S9, S10, S11, S12, S13, S14, S15, S16, S17, opv, opvs, eget, env0, setD, lenStr, lenSl, isNilP, isNilS, putAt, if_true, if_false, reduceCtorEq, Nat.reduceLeDiff, Nat.reduceEqDiff, Nat.reduceSub, Nat.reduceMul, Nat.reduceAdd]
      rcases hw0 : (w == []) with _ | _
      · have hfo : filMid fs o.Values (k + 1) = filMid fs o.Values k := by
          rw [hms]; simp only [filOne, hw0]; exact set_same hmk
        simp -implicitDefEqProofs only [hw0, cond_t, cond_f, hsB, hsI, hsBx, hsIx, hve, hrk, hrl, kx, kxi, hx, more, nat_nn, Nat.zero_le, List.getElem?_map, Option.map_some, List.length_map, GateField.ts, tGateFieldS, tStr, S0, S1, S2, S3, S4, S5, S6, S7, S8, S9, S10, S11, S12, S13, S14, S15, S16, S17, opv, opvs, eget, env0, setD, lenStr, lenSl, isNilP, isNilS, putAt, if_true, if_false, reduceCtorEq, Nat.reduceLeDiff, Nat.reduceEqDiff, Nat.reduceSub, Nat.reduceMul, Nat.reduceAdd]
        refine lk_g ⟨k + 1, s ++ [Go.Ab.Obj.box [.t (.str x.Name), .t (.int .i64 x.Kind), .t (.int .i64 x.Least), .t (.int .i64 x.Most), .t (.lst 1 (x.Words.map tStr)), .t (.str x.To), .t (.int .i64 x.Role), .t (.bool x.Must), .t (.bool x.Fixed), .t (.str x.Default), .t (.str x.Weighs)]]⟩ (by simp only; omega) ⟨by simp only; omega, by first | omega | (simp; done) | (simp; omega), fun y hy hyi => ?_, fun y hy => ?_⟩ (by first | omega | (simp; done) | (simp; omega)) rfl rfl
        · rw [List.getElem?_append_left (by omega)]; exact hkb y hy hyi
        · rw [List.getElem?_append_left (by have := (List.getElem?_eq_some_iff.1 (hid y hy)).1; omega)]
          simp only
          rw [hfo]
          exact hid y hy
      · have hfo : filMid fs o.Values (k + 1) = (filMid fs o.Values k).set k x.Default := by
          rw [hms]; simp only [filOne, hw0, if_true]
        simp -implicitDefEqProofs only [hw0, cond_t, cond_f, hsB, hsI, hsBx, hsIx, hve, hrk, hrl, kx, kxi, c0, hx, more, nat_nn, Nat.zero_le, List.getElem?_map, Option.map_some, List.length_map, GateField.ts, tGateFieldS, tStr, S0, S1, S2, S3, S4, S5, S6, S7, S8, S9, S10, S11, S12, S13, S14, S15, S16, S17, opv, opvs, eget, env0, setD, lenStr, lenSl, isNilP, isNilS, putAt, if_true, if_false, reduceCtorEq, Nat.reduceLeDiff, Nat.reduceEqDiff, Nat.reduceSub, Nat.reduceMul, Nat.reduceAdd]
        rw [tObj_set, ← hfo]
        refine lk_g ⟨k + 1, (s ++ [Go.Ab.Obj.box [.t (.str x.Name), .t (.int .i64 x.Kind), .t (.int .i64 x.Least), .t (.int .i64 x.Most), .t (.lst 1 (x.Words.map tStr)), .t (.str x.To), .t (.int .i64 x.Role), .t (.bool x.Must), .t (.bool x.Fixed), .t (.str x.Default), .t (.str x.Weighs)]]).set id (tObj 1 ((filMid fs o.Values (k + 1)).map tStr))⟩ (by simp only; omega) ⟨by simp only; omega, by first | omega | (simp; done) | (simp; omega), fun y hy hyi => ?_, fun y hy => ?_⟩ (by first | omega | (simp; done) | (simp; omega)) rfl rfl
        · have hyn : id ≠ y := fun e => hyi (by rw [hi, ← e]; simp)
          simp only
          rw [List.getElem?_set_ne hyn, List.getElem?_append_left (by omega)]
          exact hkb y hy hyi
        · rw [hi] at hy
          simp only [List.mem_singleton] at hy
          subst hy
          exact List.getElem?_set_self (by first | omega | (simp; done) | (simp; omega))
    have hkk := end_of h1 hk
    subst hkk
    clear h1 hk
    have e2s : s[P + 1]? = some (.box [.t (.str []), .t (.str []), .t (.str []), .nils, .t (.bool false), .nils, .t (.int .i64 0)]) := (hkb _ (by omega) (fun h => by have := hwi1 _ h; omega)).trans e2B
    have e2u : ∀ x : Go.Ab.Obj, (s.set (P + 1) x)[P + 1]? = some x := fun x => List.getElem?_set_self (by omega)
    simp -implicitDefEqProofs only [hsB, e2s, e2u, hov, hoh, one_cells hov, one_cells hoh, S0, S1, S2, S3, S4, S5, S6, S7, S8, S9, S10, S11, S12, S13, S14, S15, S16, S17, opv, opvs, eget, env0, setD, lenStr, lenSl, isNilP, isNilS, putAt, if_true, if_false, reduceCtorEq, Nat.reduceLeDiff, Nat.reduceEqDiff, Nat.reduceSub, Nat.reduceMul, Nat.reduceAdd]
    have hvF : Own s (tStrs (filVs fs o.Values)) v i := by
      rcases own_obj hv (strs_flat o.Values) with ⟨h0, h1, h2⟩ | ⟨id, h1, h2, h3⟩
      · have h0' : o.Values = [] := by simpa using h0
        subst h1
        have : filVs fs o.Values = [] := by rw [h0']; simp [filVs]
        rw [this]; rcases h2 with rfl | rfl <;> simp [Own, tStrs]
      · have := hid id (by rw [h1]; simp)
        rw [mid_all hfl] at this
        rw [List.length_map] at h2
        rw [h1, h2]
        exact own_strs this (by simp [filVs]; omega)
    have hnd : ∀ x ∈ j, x ∉ i := fun x hx hi => by
      have := hwi.1
      rw [List.nodup_append] at this
      exact this.2.2 x hi x hx rfl
    have hjF : Own s (tStrs o.Holds) hd j := hhd.frame fun x hx => by
      have := hwi.2 x (by simp [hx])
      rw [hkb x (by omega) (hnd x hx), hB0 x (by omega)]
    have KS : Kp σ s := fun x hx => by
      rw [hkb x (by omega) (fun h => by have := hwi1 _ h; omega), hB0 x (by omega)]
      exact K0 x hx
    rw [hr]
    refine fin_keep (by simp; omega) ⟨_, _, i ++ (j ++ []), rfl, kp_split (KS.set (by omega)) (by simp; omega), ?_, ?_⟩
    · refine OwnL.frame (own_7 (o := { o with Values := filVs fs o.Values }) hvF hjF) fun x hx => ?_
      have hx1 := hwi.2 x (by simpa using hx)
      rw [List.getElem?_set_ne (by omega)]
    · rw [List.append_nil]
      exact hwi.mono (by omega) (by simp; omega)

end Go.Proofs.Ytgdmgoidfglobaa.W

end


section
open Go Go.Ab
set_option maxHeartbeats 2000000
namespace Go.Proofs.Ytgdmgoidfglobaa.W
def resT_GateFill (l : List GateShape) (o : GateObject) : List T := (filR l o).ts
theorem specF_GateFill (l : List GateShape) (hl : GateShape.OkS l) (o : GateObject) (ho : o.Ok) (σ : Store) : ACalls Try.prog 55 [.t (tGateShapeS l), .agg o.vs] σ fun rr σ' => rr = .agg ((resT_GateFill l o).map .t) ∧ σ' = σ := acalls_frzTL (spec_GateFillO l hl o ho σ)
theorem implO_GateFill (l : List GateShape) (hl : GateShape.OkS l) (o : GateObject) (ho : o.Ok) (σ : Store) : ACalls Try.prog 56 [.t (tGateShapeS l), .agg o.vs] σ (ToLR (resT_GateFill l o) σ) := impl_GateFillO l hl o ho σ
theorem sizeR_mem {r : List T} : ∀ {rows : List (List T)}, r ∈ rows → T.sizeL r ≤ T.sizeR rows
  | [], h => by cases h
  | x :: rows, h => by
    rw [sizeR_cons]
    rcases List.mem_cons.1 h with rfl | h
    · omega
    · have := sizeR_mem h; omega
theorem fil_size : ∀ (fs : List GateField) (vs : List (List UInt8)), T.sizeR ((filVs fs vs).map tStr) ≤ T.sizeR (fs.map GateField.ts) + T.sizeR (vs.map tStr)
  | [], vs => by simp [filVs, sizeR_nil]
  | _ :: _, [] => by simp [filVs, sizeR_nil]
  | f :: fs, v :: vs => by
    have ih := fil_size fs vs
    simp only [filVs] at ih
    simp only [filVs, List.zip_cons_cons, List.map_cons, sizeR_cons, GateField.ts, sizeGateField, tStr, sizeL_cons, sizeL_nil, size_str]
    have : (filOne (f, v)).length ≤ f.Default.length + v.length := by unfold filOne; split <;> simp only <;> omega
    omega
theorem fil_len (fs : List GateField) (vs : List (List UInt8)) (h : fs.length = vs.length) : (filVs fs vs).length = vs.length := by
  simp [filVs]; omega
theorem res_GateFill (l : List GateShape) (hl : T.is (.sl 2 shGateShape) (tGateShapeS l)) (zl : (tGateShapeS l).size ≤ 1048576) (ol : GateShape.OkS l) (o : GateObject) (ho : T.isL shGateObject o.ts) (zo : T.sizeL o.ts ≤ 1048576) (oo : o.Ok) : T.isL shGateObject (resT_GateFill l o) ∧ T.sizeL (resT_GateFill l o) ≤ 8388608 := by
  unfold resT_GateFill filR
  split
  · unfold filO
    split
    · rename_i fs hf
      obtain ⟨hfo, hfl⟩ := fields_ok hf ol
      have hsz : T.sizeR (fs.map GateField.ts) ≤ 1048576 := by
        unfold fieldsR at hf
        split at hf
        · rename_i s hs
          split at hf
          · obtain rfl := Option.some.inj hf
            have hm : s.ts ∈ l.map GateShape.ts := List.mem_map_of_mem (List.mem_of_find?_eq_some hs)
            have h1 := sizeR_mem hm
            rw [tGateShapeS, size_lst] at zl
            rw [GateShape.ts, sizeGateShape, size_lst] at h1
            omega
          · cases hf
        · cases hf
      obtain ⟨n0, n1, n2, n3, n4, n5, n6, e, b0, b1, b2, b3, b5, b6⟩ := isGateObject ho
      unfold GateObject.ts at e
      cases e
      have hv : T.is (.sl 1 [.str]) (tStrs (filVs fs o.Values)) := by
        simp only [tStrs, T.is]
        have hov := oo.Values
        refine ⟨_, rfl, by rw [List.length_map, fil_len _ _ hfl]; have := hov.1; simp only [maxLen]; omega, fun r hr => ?_⟩
        obtain ⟨w, hw, rfl⟩ := List.mem_map.1 hr
        simp only [filVs, List.mem_map] at hw
        obtain ⟨⟨f, v⟩, hz, rfl⟩ := hw
        have hz' := List.of_mem_zip hz
        have h1 := (hfo.2 f hz'.1).Default
        have h2 := hov.2 v hz'.2
        have h3 : (filOne (f, v)).length ≤ 1048576 := by unfold filOne; split <;> assumption
        simp only [tStr, T.isL, T.is]
        exact ⟨_, _, rfl, ⟨_, rfl, by simp only [maxLen]; omega⟩, rfl⟩
      refine ⟨mkGateObject b0 b1 b2 hv b5 b6, ?_⟩
      unfold GateObject.ts at zo
      rw [sizeGateObject] at zo
      simp only [GateObject.ts]
      rw [sizeGateObject]
      have := fil_size fs o.Values
      simp only [size_lst, List.length_map] at zo ⊢
      rw [fil_len _ _ hfl]
      omega
    · exact ⟨ho, by omega⟩
  · exact ⟨ho, by omega⟩

end Go.Proofs.Ytgdmgoidfglobaa.W

end
