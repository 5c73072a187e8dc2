/- Copies of sheets. Conditions: none. -/
/- Lines and sheets of one's own. Conditions: none. -/
import Derived.Test.YtkppdeobinefbaaDoorSheetGetA
set_option linter.unusedSimpArgs false
set_option linter.unusedVariables false
set_option linter.defProp false

section
open Go Go.Ab
set_option maxHeartbeats 2000000
namespace Go.Proofs.YtkppdeobinefbaaDoor.W
theorem split_at {α : Type} {l : List α} {i : Nat} {x : α} (h : l[i]? = some x) : l = l.take i ++ x :: l.drop (i + 1) := by
  have := List.take_append_drop i l
  rw [drop_of h] at this
  exact this.symm

/-- A list of one's own whose rows are frozen. -/
def FO (n : Nat) (s : Store) (bs : List SheetBlock) (v : V) : Prop := (bs = [] ∧ v = .nils) ∨ ∃ id, n ≤ id ∧ v = .sl id bs.length 0 bs.length ∧ s[id]? = some (tObj 3 (bs.map SheetBlock.ts))
theorem FO.one {n : Nat} {s : Store} {bs : List SheetBlock} {v : V} (h : FO n s bs v) : Go.Ab.one v = true := by
  rcases h with ⟨_, rfl⟩ | ⟨id, _, rfl, _⟩ <;> rfl
theorem FO.len {n : Nat} {s : Store} {bs : List SheetBlock} {v : V} (h : FO n s bs v) : lenSl v = some bs.length := by
  rcases h with ⟨rfl, rfl⟩ | ⟨id, _, rfl, _⟩ <;> rfl
theorem FO.at {n : Nat} {s : Store} {bs : List SheetBlock} {v : V} (h : FO n s bs v) (hn : bs ≠ []) : ∃ id, n ≤ id ∧ v = .sl id bs.length 0 bs.length ∧ s[id]? = some (.slc 3 ((bs.map SheetBlock.ts).map fun r => r.map V.t)) := by
  rcases h with ⟨h0, _⟩ | ⟨id, h1, h2, h3⟩
  · exact (hn h0).elim
  · exact ⟨id, h1, h2, h3⟩
theorem FO.kp {n : Nat} {s s' : Store} {bs : List SheetBlock} {v : V} (h : FO n s bs v) (k : Kp s s') : FO n s' bs v := by
  rcases h with h | ⟨id, h1, h2, h3⟩
  · exact .inl h
  · exact .inr ⟨id, h1, h2, k.box h3⟩
theorem FO.set {n : Nat} {s : Store} {bs : List SheetBlock} {v : V} (h : FO n s bs v) {X : Nat} {o : Go.Ab.Obj} {c : List V} (hx : s[X]? = some (.box c)) : FO n (s.set X o) bs v := by
  rcases h with h | ⟨id, h1, h2, h3⟩
  · exact .inl h
  · refine .inr ⟨id, h1, h2, ?_⟩
    rw [List.getElem?_set_ne (fun e => by subst e; rw [h3] at hx; cases hx)]
    exact h3
theorem FO.mono {n m : Nat} {s : Store} {bs : List SheetBlock} {v : V} (h : FO n s bs v) (hm : m ≤ n) : FO m s bs v := by
  rcases h with h | ⟨id, h1, h2, h3⟩
  · exact .inl h
  · exact .inr ⟨id, by omega, h2, h3⟩
theorem block_row {bs : List SheetBlock} {k : Nat} {b : SheetBlock} (h : bs[k]? = some b) : ((bs.map SheetBlock.ts).map fun r => r.map V.t)[k]? = some b.vs := by
  rw [List.getElem?_map, List.getElem?_map, h]; rfl
theorem block_one (b : SheetBlock) : (b.vs).all Go.Ab.one = true := rfl
theorem blocks_app (bs : List SheetBlock) (b : SheetBlock) : (bs ++ [b]).map SheetBlock.ts = bs.map SheetBlock.ts ++ [b.ts] := by simp
theorem tObj_app (bs : List SheetBlock) (b : SheetBlock) : Go.Ab.Obj.slc 3 (((bs.map SheetBlock.ts).map fun r => r.map V.t) ++ [b.vs]) = tObj 3 ((bs ++ [b]).map SheetBlock.ts) := by
  simp only [tObj, blocks_app, List.map_append, List.map_cons, List.map_nil]; rfl
structure Gc2 where
  k : Nat
  v : V
  s : Store

def c_spec_l39Block : C := (.seq (.ops [⟨(some 1), none, (.box (.t 0))⟩, ⟨(some 2), none, (.new [(.t (.str [])), (.t (.str [])), .nils])⟩]) (.seq (.ops [⟨(some 3), none, (.fieldAddr 2 (.t 1))⟩, ⟨(some 4), none, (.load none (.t 3))⟩, ⟨(some 5), none, (.call (.c (.fn (.func 113) [])) [(.t 4)])⟩, ⟨(some 6), none, (.fieldAddr 2 (.t 1))⟩, ⟨none, none, (.store 1 (.t 6) (.t 5))⟩]) (.seq (.ops [⟨(some 7), none, (.load (some 3) (.t 1))⟩, ⟨none, none, (.store 3 (.t 2) (.t 7))⟩]) .ret)))
theorem k_spec_l39Block : comp Tryd.prog 8 (Tryd.f116.body.getD .skip) = some c_spec_l39Block := by kernel_rfl

theorem spec_l39Block (b : SheetBlock) (hb : b.Ok) (σ : Store) : ACalls Tryd.prog 116 [.agg b.vs] σ fun r σ' => r = .agg b.vs ∧ σ' = σ := by
  refine acalls_of Tryd.func116 (by decide +kernel) (code := Tryd.f116.body.getD .skip) (n := 8) (c := c_spec_l39Block) (rs := [(.cell 2 (some 3))]) rfl rfl k_spec_l39Block (by kernel_rfl) (by simp) (fun hσ => ?_)
  simp -implicitDefEqProofs only [c_spec_l39Block, SheetBlock.vs, S0, S1, S2, S3, S4, S5, S6, S7, S8, S9, S10, S11, S12, S13, S14, S15, S16, S17, opv, opvs, eget, env0, setD, lenStr, lenSl, isNilP, isNilS, putAt, if_true, if_false, reduceCtorEq, Nat.reduceLeDiff, Nat.reduceEqDiff, Nat.reduceSub, Nat.reduceMul, Nat.reduceAdd]
  have hl := spec_l39Lines b.Lines hb.Lines
  simp only [tSheetLineS] at hl
  refine call_pure (hl _) ?_
  simp -implicitDefEqProofs only [S0, S1, S2, S3, S4, S5, S6, S7, S8, S9, S10, S11, S12, S13, S14, S15, S16, S17, opv, opvs, eget, env0, setD, lenStr, lenSl, isNilP, isNilS, putAt, if_true, if_false, reduceCtorEq, Nat.reduceLeDiff, Nat.reduceEqDiff, Nat.reduceSub, Nat.reduceMul, Nat.reduceAdd]
  exact ret_same rfl hσ rfl ⟨rfl, rfl⟩

def c_spec_l39Copy : C := (.seq (.ops [⟨(some 1), none, (.box (.t 0))⟩, ⟨(some 2), none, (.new [.nils])⟩]) (.seq (.ops [⟨(some 5), none, (.build [.nils] [])⟩, ⟨(some 3), none, (.new [.nils])⟩, ⟨none, none, (.store 1 (.t 3) (.t 5))⟩]) (.seq (.seq (.ops [⟨(some 4), none, (.mv (.c (.t (.int .i64 0))))⟩]) (.block 0 (.loop (.seq (.seq (.ops [⟨(some 6), none, (.mv (.t 4))⟩, ⟨(some 7), none, (.fieldAddr 0 (.t 1))⟩, ⟨(some 8), none, (.load none (.t 7))⟩, ⟨(some 9), none, (.len false (.t 8))⟩, ⟨(some 10), none, (.bin .lss (.t 6) (.t 9))⟩]) (.cond (.t 10) .skip (.exit 0))) (.seq (.block 1 (.drawn [(.mk 0 false ⟨(some 13), none, (.fieldAddr 0 (.t 3))⟩ []), (.mk 1 false ⟨(some 14), none, (.load none (.t 13))⟩ []), (.mk 2 false ⟨(some 15), none, (.fieldAddr 0 (.t 1))⟩ []), (.mk 3 false ⟨(some 16), none, (.load none (.t 15))⟩ []), (.mk 4 false ⟨(some 17), none, (.mv (.t 4))⟩ []), (.mk 5 false ⟨(some 18), none, (.indexAddr 3 (.t 16) (.t 17))⟩ []), (.mk 6 false ⟨(some 19), none, (.load (some 3) (.t 18))⟩ []), (.mk 7 true ⟨(some 20), none, (.call (.c (.fn (.func 116) [])) [(.t 19)])⟩ [⟨(some 14), none, (.load none (.t 13))⟩]), (.mk 8 false ⟨(some 21), none, (.lit (some false) 3 1 [(.t (.str [])), (.t (.str [])), .nils] [⟨0, (.t 20)⟩])⟩ []), (.mk 9 false ⟨(some 22), none, (.append 3 56 (.t 14) (.t 21))⟩ []), (.mk 10 false ⟨(some 23), none, (.fieldAddr 0 (.t 3))⟩ []), (.mk 11 false ⟨none, none, (.store 1 (.t 23) (.t 22))⟩ [])])) (.ops [⟨(some 11), none, (.mv (.t 4))⟩, ⟨(some 12), none, (.bin .add (.t 11) (.c (.t (.int .i64 1))))⟩, ⟨(some 4), none, (.mv (.t 12))⟩])))))) (.seq (.ops [⟨(some 24), none, (.load (some 1) (.t 3))⟩, ⟨none, none, (.store 1 (.t 2) (.t 24))⟩]) .ret))))
theorem k_spec_l39Copy : comp Tryd.prog 25 (Tryd.f85.body.getD .skip) = some c_spec_l39Copy := by kernel_rfl

set_option maxHeartbeats 8000000 in
theorem spec_l39CopyA (bs : List SheetBlock) (hbs : SheetBlock.OkS bs) (σ : Store) : ACalls Tryd.prog 85 [.agg [.t (.lst 3 (bs.map SheetBlock.ts))]] σ fun r σ' => ∃ v, r = .agg [v] ∧ Kp σ σ' ∧ σ.length ≤ σ'.length ∧ FO σ.length σ' bs v := by
  refine acalls_of Tryd.func85 (by decide +kernel) (code := Tryd.f85.body.getD .skip) (n := 25) (c := c_spec_l39Copy) (rs := [(.cell 2 (some 1))]) rfl rfl k_spec_l39Copy (by kernel_rfl) (by simp) (fun hσ => ?_)
  have y1 := hbs.1
  simp -implicitDefEqProofs only [c_spec_l39Copy, List.length_map, S0, S1, S2, S3, S4, S5, S6, S7, S8, S9, S10, S11, S12, S13, S14, S15, S16, S17, opv, opvs, eget, env0, setD, lenStr, lenSl, isNilP, isNilS, putAt, if_true, if_false, reduceCtorEq, Nat.reduceLeDiff, Nat.reduceEqDiff, Nat.reduceSub, Nat.reduceMul, Nat.reduceAdd]
  refine loop_g [4, 1, 2, 3] [1, 2, 3] (fun g : Gc2 => [(4, .t (.int .i64 (g.k : Nat)))]) Gc2.s (fun g => g.k ≤ bs.length ∧ Kp σ g.s ∧ σ.length + 3 ≤ g.s.length ∧ FO (σ.length + 3) g.s (bs.take g.k) g.v ∧ g.s[σ.length]? = some (.box [.t (.lst 3 (bs.map SheetBlock.ts))]) ∧ g.s[σ.length + 1]? = some (.box [.nils]) ∧ g.s[σ.length + 2]? = some (.box [g.v])) (fun g => bs.length - g.k) ⟨0, .nils, σ ++ [.box [.t (.lst 3 (bs.map SheetBlock.ts))], .box [.nils], .box [.nils]]⟩ (by simp) ⟨Nat.zero_le _, Kp.app _ _, by simp, .inl ⟨rfl, rfl⟩, by simp, by simp, by simp⟩ rfl rfl ?_
  rintro ⟨k, v, s⟩ ⟨hk, hkp, hle, hfo, e1, e2, e3⟩
  simp only at hk hkp hle hfo e1 e2 e3
  have hone := hfo.one
  simp -implicitDefEqProofs only [keep, e1, List.length_map, S0, S1, S2, S3, S4, S5, S6, S7, S8, S9, S10, S11, S12, S13, S14, S15, S16, S17, opv, opvs, eget, env0, setD, lenStr, lenSl, isNilP, isNilS, putAt, if_true, if_false, reduceCtorEq, Nat.reduceLeDiff, Nat.reduceEqDiff, Nat.reduceSub, Nat.reduceMul, Nat.reduceAdd]
  refine cond_split (fun h1 => ?_) (fun h1 => ?_)
  · obtain ⟨x, hx, hlt⟩ := at_of h1
    have more := i64_succ (show k < 4611686018427387904 by omega)
    have hxo := hbs.2 x (List.mem_of_getElem? hx)
    have htl : (bs.take k).length = k := by rw [List.length_take]; omega
    have htk : bs.take (k + 1) = bs.take k ++ [x] := take_of hx
    have hat : True := trivial
    have c3 : 0 < 3 := by omega
    simp -implicitDefEqProofs only [e1, e2, e3, hone, hx, hat, block_row hx, c3, nat_nn, Nat.zero_le, List.getElem?_map, Option.map_some, List.length_map, SheetBlock.ts, SheetBlock.vs, S0, S1, S2, S3, S4, S5, S6, S7, S8, S9, S10, S11, S12, S13, S14, S15, S16, S17, opv, opvs, eget, env0, setD, lenStr, lenSl, isNilP, isNilS, putAt, if_true, if_false, reduceCtorEq, Nat.reduceLeDiff, Nat.reduceEqDiff, Nat.reduceSub, Nat.reduceMul, Nat.reduceAdd]
    have hbk := spec_l39Block x hxo
    simp only [SheetBlock.vs] at hbk
    refine call_pure (hbk _) ?_
    have hrow : ∀ (s' : Store), rowsOf s' 3 (.rows 3 [[.t (.str x.Kind), .t (.str x.Name), .t (.lst 2 (x.Lines.map SheetLine.ts))]]) = some [[.t (.str x.Kind), .t (.str x.Name), .t (.lst 2 (x.Lines.map SheetLine.ts))]] := fun s' => rowsOf_rows rfl
    simp -implicitDefEqProofs only [e1, e2, e3, hone, c3, hrow, more, S0, S1, S2, S3, S4, S5, S6, S7, S8, S9, S10, S11, S12, S13, S14, S15, S16, S17, opv, opvs, eget, env0, setD, lenStr, lenSl, isNilP, isNilS, putAt, if_true, if_false, reduceCtorEq, Nat.reduceLeDiff, Nat.reduceEqDiff, Nat.reduceSub, Nat.reduceMul, Nat.reduceAdd]
    have e3t : ∀ (t : Store) (o : Go.Ab.Obj), σ.length + 2 < t.length → (t.set (σ.length + 2) o)[σ.length + 2]? = some o := fun t o h => List.getElem?_set_self h
    rcases hfo with ⟨h0, rfl⟩ | ⟨id, h3, rfl, h4⟩
    · have b1 : 1 * 56 ≤ maxBy := by decide
      have b2 : 1 ≤ 9223372036854775807 := by decide
      have e3x : ∀ o : Go.Ab.Obj, (s ++ [o])[σ.length + 2]? = some (.box [.nils]) := fun o => by rw [List.getElem?_append_left (by omega)]; exact e3
      simp -implicitDefEqProofs only [e3, e3x, more, List.length_cons, List.length_nil, b1, b2, S0, S1, S2, S3, S4, S5, S6, S7, S8, S9, S10, S11, S12, S13, S14, S15, S16, S17, opv, opvs, eget, env0, setD, lenStr, lenSl, isNilP, isNilS, putAt, if_true, if_false, reduceCtorEq, Nat.reduceLeDiff, Nat.reduceEqDiff, Nat.reduceSub, Nat.reduceMul, Nat.reduceAdd]
      refine ⟨by omega, lk_g ⟨k + 1, .sl s.length 1 0 1, (s ++ [Go.Ab.Obj.slc 3 [x.vs]]).set (σ.length + 2) (.box [.sl s.length 1 0 1])⟩ (by simp only; omega) ⟨by simp only; omega, (kp_app2 hkp).set (by omega), by simp; omega, .inr ⟨s.length, hle, by rw [htk, h0]; rfl, ?_⟩, ?_, ?_, ?_⟩ (by simp; omega) rfl rfl⟩
      · simp only
        rw [htk, h0, List.getElem?_set_ne (by omega), List.getElem?_append_right (by omega), Nat.sub_self]; rfl
      · simp only
        rw [List.getElem?_set_ne (by omega), List.getElem?_append_left (by omega)]; first | exact e1 | rw [e1, hat.1]
      · simp only
        rw [List.getElem?_set_ne (by omega), List.getElem?_append_left (by omega)]; exact e2
      · exact List.getElem?_set_self (by simp; omega)
    · have h4' : s[id]? = some (.slc 3 (((bs.take k).map SheetBlock.ts).map fun r => r.map V.t)) := h4
      have hidl := (List.getElem?_eq_some_iff.1 h4').1
      have hrl : (((bs.take k).map SheetBlock.ts).map fun r => r.map V.t).length = (bs.take k).length := by rw [List.length_map, List.length_map]
      have b1 : ((bs.take k).length + 1) * 56 ≤ maxBy := by rw [htl]; simp only [maxBy]; omega
      have b2 : (bs.take k).length + 1 ≤ 9223372036854775807 := by rw [htl]; omega
      have e3x : ∀ o : Go.Ab.Obj, (s.set id o)[σ.length + 2]? = some (.box [.sl id (bs.take k).length 0 (bs.take k).length]) := fun o => by rw [List.getElem?_set_ne (by omega)]; exact e3
      try simp -implicitDefEqProofs only [h4', e3, e3x, hrl, more, List.length_cons, List.length_nil, b1, b2, S0, S1, S2, S3, S4, S5, S6, S7, S8, S9, S10, S11, S12, S13, S14, S15, S16, S17, opv, opvs, eget, env0, setD, lenStr, lenSl, isNilP, isNilS, putAt, if_true, if_false, reduceCtorEq, Nat.reduceLeDiff, Nat.reduceEqDiff, Nat.reduceSub, Nat.reduceMul, Nat.reduceAdd]
      refine ⟨by omega, by rw [htl]; omega, lk_g ⟨k + 1, .sl id ((bs.take k).length + 1) 0 ((bs.take k).length + 1), (s.set id (Go.Ab.Obj.slc 3 ((((bs.take k).map SheetBlock.ts).map fun r => r.map V.t) ++ [x.vs]))).set (σ.length + 2) (.box [.sl id ((bs.take k).length + 1) 0 ((bs.take k).length + 1)])⟩ (by simp only; omega) ⟨by simp only; omega, (hkp.set (by omega)).set (by omega), by simp; omega, .inr ⟨id, h3, by rw [htk]; simp, ?_⟩, ?_, ?_, ?_⟩ (by simp; omega) rfl rfl⟩
      · simp only
        rw [htk, List.getElem?_set_ne (by omega), List.getElem?_set_self hidl, tObj_app]
      · simp only
        rw [List.getElem?_set_ne (by omega), List.getElem?_set_ne (by omega)]; first | exact e1 | rw [e1, hat.1]
      · simp only
        rw [List.getElem?_set_ne (by omega), List.getElem?_set_ne (by omega)]; exact e2
      · exact List.getElem?_set_self (by simp; omega)
  · have hkk := end_of h1 hk
    rw [hkk, List.take_length] at hfo
    have e2t : ∀ o : Go.Ab.Obj, (s.set (σ.length + 1) o)[σ.length + 1]? = some o := fun o => List.getElem?_set_self (by omega)
    simp -implicitDefEqProofs only [e1, e2, e3, e2t, hone, one_cells hone, S0, S1, S2, S3, S4, S5, S6, S7, S8, S9, S10, S11, S12, S13, S14, S15, S16, S17, opv, opvs, eget, env0, setD, lenStr, lenSl, isNilP, isNilS, putAt, if_true, if_false, reduceCtorEq, Nat.reduceLeDiff, Nat.reduceEqDiff, Nat.reduceSub, Nat.reduceMul, Nat.reduceAdd]
    exact fin_keep (by simp; omega) ⟨v, rfl, hkp.set (by omega), by simp; omega, (hfo.set e2).mono (by omega)⟩

set_option maxHeartbeats 8000000 in
theorem spec_l39CopyB (bs : List SheetBlock) (hbs : SheetBlock.OkS bs) (u : V) (n : Nat) (σ : Store) (hu : FO n σ bs u) : ACalls Tryd.prog 85 [.agg [u]] σ fun r σ' => ∃ v, r = .agg [v] ∧ Kp σ σ' ∧ σ.length ≤ σ'.length ∧ FO σ.length σ' bs v := by
  refine acalls_of Tryd.func85 (by decide +kernel) (code := Tryd.f85.body.getD .skip) (n := 25) (c := c_spec_l39Copy) (rs := [(.cell 2 (some 1))]) rfl rfl k_spec_l39Copy (by kernel_rfl) (by simp) (fun hσ => ?_)
  have y1 := hbs.1
  have hlu := hu.len
  simp only [lenSl] at hlu
  have hou := hu.one
  simp -implicitDefEqProofs only [c_spec_l39Copy, hlu, hou, one_cells hou, List.length_map, S0, S1, S2, S3, S4, S5, S6, S7, S8, S9, S10, S11, S12, S13, S14, S15, S16, S17, opv, opvs, eget, env0, setD, lenStr, lenSl, isNilP, isNilS, putAt, if_true, if_false, reduceCtorEq, Nat.reduceLeDiff, Nat.reduceEqDiff, Nat.reduceSub, Nat.reduceMul, Nat.reduceAdd]
  refine loop_g [4, 1, 2, 3] [1, 2, 3] (fun g : Gc2 => [(4, .t (.int .i64 (g.k : Nat)))]) Gc2.s (fun g => g.k ≤ bs.length ∧ Kp σ g.s ∧ σ.length + 3 ≤ g.s.length ∧ FO (σ.length + 3) g.s (bs.take g.k) g.v ∧ g.s[σ.length]? = some (.box [u]) ∧ g.s[σ.length + 1]? = some (.box [.nils]) ∧ g.s[σ.length + 2]? = some (.box [g.v])) (fun g => bs.length - g.k) ⟨0, .nils, σ ++ [.box [u], .box [.nils], .box [.nils]]⟩ (by simp) ⟨Nat.zero_le _, Kp.app _ _, by simp, .inl ⟨rfl, rfl⟩, by simp, by simp, by simp⟩ rfl rfl ?_
  rintro ⟨k, v, s⟩ ⟨hk, hkp, hle, hfo, e1, e2, e3⟩
  simp only at hk hkp hle hfo e1 e2 e3
  have hone := hfo.one
  simp -implicitDefEqProofs only [hlu, hou, one_cells hou, keep, e1, List.length_map, S0, S1, S2, S3, S4, S5, S6, S7, S8, S9, S10, S11, S12, S13, S14, S15, S16, S17, opv, opvs, eget, env0, setD, lenStr, lenSl, isNilP, isNilS, putAt, if_true, if_false, reduceCtorEq, Nat.reduceLeDiff, Nat.reduceEqDiff, Nat.reduceSub, Nat.reduceMul, Nat.reduceAdd]
  refine cond_split (fun h1 => ?_) (fun h1 => ?_)
  · obtain ⟨x, hx, hlt⟩ := at_of h1
    have more := i64_succ (show k < 4611686018427387904 by omega)
    have hxo := hbs.2 x (List.mem_of_getElem? hx)
    have htl : (bs.take k).length = k := by rw [List.length_take]; omega
    have htk : bs.take (k + 1) = bs.take k ++ [x] := take_of hx
    obtain ⟨idu, _, hue, huo⟩ := hu.at (by rintro rfl; simp at hx)
    have hau := hkp.box huo
    have hrlu : ((bs.map SheetBlock.ts).map fun r => r.map V.t).length = bs.length := by rw [List.length_map, List.length_map]
    have kx : ((k : Nat) : Int) < ((bs.length : Nat) : Int) := by omega
    have hat := And.intro hue (And.intro hau (And.intro hrlu kx))
    have c3 : 0 < 3 := by omega
    simp -implicitDefEqProofs only [e1, e2, e3, hone, hx, hat, block_row hx, c3, nat_nn, Nat.zero_le, List.getElem?_map, Option.map_some, List.length_map, SheetBlock.ts, SheetBlock.vs, S0, S1, S2, S3, S4, S5, S6, S7, S8, S9, S10, S11, S12, S13, S14, S15, S16, S17, opv, opvs, eget, env0, setD, lenStr, lenSl, isNilP, isNilS, putAt, if_true, if_false, reduceCtorEq, Nat.reduceLeDiff, Nat.reduceEqDiff, Nat.reduceSub, Nat.reduceMul, Nat.reduceAdd]
    have hbk := spec_l39Block x hxo
    simp only [SheetBlock.vs] at hbk
    refine call_pure (hbk _) ?_
    have hrow : ∀ (s' : Store), rowsOf s' 3 (.rows 3 [[.t (.str x.Kind), .t (.str x.Name), .t (.lst 2 (x.Lines.map SheetLine.ts))]]) = some [[.t (.str x.Kind), .t (.str x.Name), .t (.lst 2 (x.Lines.map SheetLine.ts))]] := fun s' => rowsOf_rows rfl
    simp -implicitDefEqProofs only [e1, e2, e3, hone, c3, hrow, more, S0, S1, S2, S3, S4, S5, S6, S7, S8, S9, S10, S11, S12, S13, S14, S15, S16, S17, opv, opvs, eget, env0, setD, lenStr, lenSl, isNilP, isNilS, putAt, if_true, if_false, reduceCtorEq, Nat.reduceLeDiff, Nat.reduceEqDiff, Nat.reduceSub, Nat.reduceMul, Nat.reduceAdd]
    have e3t : ∀ (t : Store) (o : Go.Ab.Obj), σ.length + 2 < t.length → (t.set (σ.length + 2) o)[σ.length + 2]? = some o := fun t o h => List.getElem?_set_self h
    rcases hfo with ⟨h0, rfl⟩ | ⟨id, h3, rfl, h4⟩
    · have b1 : 1 * 56 ≤ maxBy := by decide
      have b2 : 1 ≤ 9223372036854775807 := by decide
      have e3x : ∀ o : Go.Ab.Obj, (s ++ [o])[σ.length + 2]? = some (.box [.nils]) := fun o => by rw [List.getElem?_append_left (by omega)]; exact e3
      simp -implicitDefEqProofs only [e3, e3x, more, List.length_cons, List.length_nil, b1, b2, S0, S1, S2, S3, S4, S5, S6, S7, S8, S9, S10, S11, S12, S13, S14, S15, S16, S17, opv, opvs, eget, env0, setD, lenStr, lenSl, isNilP, isNilS, putAt, if_true, if_false, reduceCtorEq, Nat.reduceLeDiff, Nat.reduceEqDiff, Nat.reduceSub, Nat.reduceMul, Nat.reduceAdd]
      refine ⟨by omega, lk_g ⟨k + 1, .sl s.length 1 0 1, (s ++ [Go.Ab.Obj.slc 3 [x.vs]]).set (σ.length + 2) (.box [.sl s.length 1 0 1])⟩ (by simp only; omega) ⟨by simp only; omega, (kp_app2 hkp).set (by omega), by simp; omega, .inr ⟨s.length, hle, by rw [htk, h0]; rfl, ?_⟩, ?_, ?_, ?_⟩ (by simp; omega) rfl rfl⟩
      · simp only
        rw [htk, h0, List.getElem?_set_ne (by omega), List.getElem?_append_right (by omega), Nat.sub_self]; rfl
      · simp only
        rw [List.getElem?_set_ne (by omega), List.getElem?_append_left (by omega)]; first | exact e1 | rw [e1, hat.1]
      · simp only
        rw [List.getElem?_set_ne (by omega), List.getElem?_append_left (by omega)]; exact e2
      · exact List.getElem?_set_self (by simp; omega)
    · have h4' : s[id]? = some (.slc 3 (((bs.take k).map SheetBlock.ts).map fun r => r.map V.t)) := h4
      have hidl := (List.getElem?_eq_some_iff.1 h4').1
      have hrl : (((bs.take k).map SheetBlock.ts).map fun r => r.map V.t).length = (bs.take k).length := by rw [List.length_map, List.length_map]
      have b1 : ((bs.take k).length + 1) * 56 ≤ maxBy := by rw [htl]; simp only [maxBy]; omega
      have b2 : (bs.take k).length + 1 ≤ 9223372036854775807 := by rw [htl]; omega
      have e3x : ∀ o : Go.Ab.Obj, (s.set id o)[σ.length + 2]? = some (.box [.sl id (bs.take k).length 0 (bs.take k).length]) := fun o => by rw [List.getElem?_set_ne (by omega)]; exact e3
      try simp -implicitDefEqProofs only [h4', e3, e3x, hrl, more, List.length_cons, List.length_nil, b1, b2, S0, S1, S2, S3, S4, S5, S6, S7, S8, S9, S10, S11, S12, S13, S14, S15, S16, S17, opv, opvs, eget, env0, setD, lenStr, lenSl, isNilP, isNilS, putAt, if_true, if_false, reduceCtorEq, Nat.reduceLeDiff, Nat.reduceEqDiff, Nat.reduceSub, Nat.reduceMul, Nat.reduceAdd]
      refine ⟨by omega, by rw [htl]; omega, lk_g ⟨k + 1, .sl id ((bs.take k).length + 1) 0 ((bs.take k).length + 1), (s.set id (Go.Ab.Obj.slc 3 ((((bs.take k).map SheetBlock.ts).map fun r => r.map V.t) ++ [x.vs]))).set (σ.length + 2) (.box [.sl id ((bs.take k).length + 1) 0 ((bs.take k).length + 1)])⟩ (by simp only; omega) ⟨by simp only; omega, (hkp.set (by omega)).set (by omega), by simp; omega, .inr ⟨id, h3, by rw [htk]; simp, ?_⟩, ?_, ?_, ?_⟩ (by simp; omega) rfl rfl⟩
      · simp only
        rw [htk, List.getElem?_set_ne (by omega), List.getElem?_set_self hidl, tObj_app]
      · simp only
        rw [List.getElem?_set_ne (by omega), List.getElem?_set_ne (by omega)]; first | exact e1 | rw [e1, hat.1]
      · simp only
        rw [List.getElem?_set_ne (by omega), List.getElem?_set_ne (by omega)]; exact e2
      · exact List.getElem?_set_self (by simp; omega)
  · have hkk := end_of h1 hk
    rw [hkk, List.take_length] at hfo
    have e2t : ∀ o : Go.Ab.Obj, (s.set (σ.length + 1) o)[σ.length + 1]? = some o := fun o => List.getElem?_set_self (by omega)
    simp -implicitDefEqProofs only [e1, e2, e3, e2t, hone, one_cells hone, S0, S1, S2, S3, S4, S5, S6, S7, S8, S9, S10, S11, S12, S13, S14, S15, S16, S17, opv, opvs, eget, env0, setD, lenStr, lenSl, isNilP, isNilS, putAt, if_true, if_false, reduceCtorEq, Nat.reduceLeDiff, Nat.reduceEqDiff, Nat.reduceSub, Nat.reduceMul, Nat.reduceAdd]
    exact fin_keep (by simp; omega) ⟨v, rfl, hkp.set (by omega), by simp; omega, (hfo.set e2).mono (by omega)⟩

end Go.Proofs.YtkppdeobinefbaaDoor.W

end


section
open Go Go.Ab
set_option maxHeartbeats 2000000
namespace Go.Proofs.YtkppdeobinefbaaDoor.W
theorem own_len2 {s : Store} {n : Nat} {rows : List (List T)} {w : V} {is : List Nat} (h : Own s (.lst n rows) w is) : lenSl w = some rows.length := by
  simp only [Own] at h
  obtain ⟨_, ⟨rfl, rfl, rfl | rfl⟩ | ⟨id, js, rs, rfl, rfl, _, h2⟩⟩ := h
  · rfl
  · rfl
  · rw [h2.len]; rfl
/-- A line of one's own: the line, its words' value, the objects' numbers. -/
structure QL where
  x : SheetLine
  w : V
  is : List Nat
def QL.row (q : QL) : List V := [.t (.str q.x.Key), q.w]
def QL.at (s : Store) (q : QL) : Prop := Own s (tStrs q.x.Words) q.w q.is
theorem ql_of {s : Store} : ∀ {ls : List SheetLine} {rs : List (List V)} {js : List Nat}, OwnR s (ls.map SheetLine.ts) rs js → ∃ L : List QL, L.map QL.x = ls ∧ rs = L.map QL.row ∧ js = L.flatMap QL.is ∧ ∀ q ∈ L, q.at s
  | [], rs, js, h => by
    simp only [List.map_nil, OwnR] at h
    obtain ⟨rfl, rfl⟩ := h
    exact ⟨[], rfl, rfl, rfl, by simp⟩
  | x :: ls, rs, js, h => by
    simp only [List.map_cons, OwnR] at h
    obtain ⟨u, us, i, j, rfl, rfl, h1, h2⟩ := h
    obtain ⟨L, rfl, rfl, rfl, h3⟩ := ql_of h2
    simp only [SheetLine.ts, OwnL] at h1
    obtain ⟨_, _, i1, j1, rfl, rfl, hs1, _, _, i2, j2, rfl, rfl, hs2, rfl, rfl⟩ := h1
    simp only [Own] at hs1
    obtain ⟨rfl, rfl⟩ := hs1
    refine ⟨⟨x, _, i2⟩ :: L, rfl, rfl, by simp, fun q hq => ?_⟩
    rcases List.mem_cons.1 hq with rfl | hq
    · exact hs2
    · exact h3 q hq
theorem ql_own {s : Store} : ∀ {L : List QL}, (∀ q ∈ L, q.at s) → OwnR s ((L.map QL.x).map SheetLine.ts) (L.map QL.row) (L.flatMap QL.is)
  | [], _ => by simp [OwnR]
  | q :: L, h => by
    have ih := ql_own (L := L) fun p hp => h p (by simp [hp])
    simp only [List.map_cons, List.flatMap_cons]
    exact OwnR.cons (lines_own (h q (by simp))) ih
theorem ql_one {s : Store} {L : List QL} (h : ∀ q ∈ L, q.at s) : ∀ q ∈ L, Go.Ab.one q.w = true := fun q hq => (h q hq).one
theorem nodup_uniq {α : Type} {f : α → List Nat} : ∀ {L : List α} {a b : α} {i : Nat}, (L.flatMap f).Nodup → a ∈ L → b ∈ L → i ∈ f a → i ∈ f b → a = b
  | [], _, _, _, _, h, _, _, _ => by cases h
  | c :: L, a, b, i, hn, ha, hb, h1, h2 => by
    rw [List.flatMap_cons] at hn
    obtain ⟨n1, n2, n3⟩ := List.nodup_append.1 hn
    rcases List.mem_cons.1 ha with e1 | ha2
    · rcases List.mem_cons.1 hb with e2 | hb2
      · rw [e1, e2]
      · exact (n3 i (e1 ▸ h1) i (List.mem_flatMap.2 ⟨b, hb2, h2⟩) rfl).elim
    · rcases List.mem_cons.1 hb with e2 | hb2
      · exact (n3 i (e2 ▸ h2) i (List.mem_flatMap.2 ⟨a, ha2, h1⟩) rfl).elim
      · exact nodup_uniq n2 ha2 hb2 h1 h2
theorem nodup_filter {α : Type} {f : α → List Nat} {p : α → Bool} : ∀ {L : List α}, (L.flatMap f).Nodup → ((L.filter p).flatMap f).Nodup
  | [], _ => by simp
  | c :: L, hn => by
    rw [List.flatMap_cons] at hn
    obtain ⟨n1, n2, n3⟩ := List.nodup_append.1 hn
    have ih := nodup_filter (p := p) n2
    rw [List.filter_cons]
    split
    · rw [List.flatMap_cons]
      refine List.nodup_append.2 ⟨n1, ih, fun x hx y hy => n3 x hx y ?_⟩
      obtain ⟨q, hq, hy⟩ := List.mem_flatMap.1 hy
      exact List.mem_flatMap.2 ⟨q, (List.mem_filter.1 hq).1, hy⟩
    · exact ih
/-- A row of a list of one's own, and another row in its place. -/
theorem own_row {s : Store} {n i : Nat} {rows : List (List T)} {r : List T} {v : V} {is : List Nat} (h : Own s (.lst n rows) v is) (hr : rows[i]? = some r) :
    ∃ id rs u js rest, v = .sl id rows.length 0 rows.length ∧ s[id]? = some (.slc n rs) ∧ rs.length = rows.length ∧ rs[i]? = some u ∧ OwnL s r u js ∧ is.Perm (id :: (js ++ rest)) ∧
      ∀ (s' : Store) (r' : List T) (u' : List V) (js' : List Nat), s'[id]? = some (.slc n (rs.set i u')) → (∀ j ∈ rest, s'[j]? = s[j]?) → OwnL s' r' u' js' → ∃ is', Own s' (.lst n (rows.set i r')) v is' ∧ is'.Perm (id :: (js' ++ rest)) := by
  have hi := (List.getElem?_eq_some_iff.1 hr).1
  simp only [Own] at h
  obtain ⟨hp, ⟨rfl, _⟩ | ⟨id, js0, rs, rfl, rfl, h1, h2⟩⟩ := h
  · simp at hr
  have hsp := split_at hr
  have hl := h2.len
  rw [hsp] at h2
  obtain ⟨ra, u, rb, ja, ji, jb, rfl, rfl, hla, k1, k2, k3⟩ := OwnR.split h2
  have hla' : ra.length = i := by rw [hla, List.length_take]; omega
  refine ⟨id, _, u, ji, ja ++ jb, by rw [hl], h1, hl, by rw [← hla']; simp, k2, ?_, fun s' r' u' js' g1 g2 g3 => ⟨id :: (ja ++ (js' ++ jb)), ?_, ?_⟩⟩
  · refine List.Perm.cons _ ?_
    rw [← List.append_assoc, ← List.append_assoc]
    exact List.Perm.append_right _ List.perm_append_comm
  · simp only [Own]
    refine ⟨hp, .inr ⟨id, ja ++ (js' ++ jb), (ra ++ u :: rb).set i u', rfl, by rw [List.length_set], g1, ?_⟩⟩
    have e1 : rows.set i r' = rows.take i ++ r' :: rows.drop (i + 1) := by
      conv => lhs; rw [hsp]
      rw [List.set_append_right _ _ (by simp; omega), List.length_take, Nat.min_eq_left (by omega), Nat.sub_self, List.set_cons_zero]
    have e2 : (ra ++ u :: rb).set i u' = ra ++ u' :: rb := by
      rw [List.set_append_right _ _ (by omega), hla', Nat.sub_self, List.set_cons_zero]
    rw [e1, e2]
    exact OwnR.app (k1.frame fun j hj => g2 j (by simp [hj])) (OwnR.cons g3 (k3.frame fun j hj => g2 j (by simp [hj])))
  · refine List.Perm.cons _ ?_
    rw [← List.append_assoc, ← List.append_assoc]
    exact List.Perm.append_right _ List.perm_append_comm
theorem own_slc {s : Store} {t : T} {v : V} {is : List Nat} (h : Own s t v is) : ∀ i ∈ is, ∃ sz rs, s[i]? = some (.slc sz rs) := fun i hi => by
  obtain ⟨sz, rs, h1, _⟩ := h.cl.2 i hi
  exact ⟨sz, rs, h1⟩
theorem own_box {s : Store} {t : T} {v : V} {is : List Nat} {X : Nat} {c : List V} (h : Own s t v is) (hx : s[X]? = some (.box c)) : X ∉ is := fun hm => by
  obtain ⟨sz, rs, h1⟩ := own_slc h X hm
  rw [h1] at hx; cases hx
theorem own_str1 {s : Store} {l : List (List UInt8)} {w : V} {is : List Nat} (h : Own s (tStrs l) w is) : ∀ i ∈ is, ∃ rs, s[i]? = some (.slc 1 rs) := by
  intro i hi
  rcases own_obj h (tStr_flat l) with ⟨_, rfl, _⟩ | ⟨id, rfl, _, h3⟩
  · cases hi
  · obtain rfl : i = id := by simpa using hi
    exact ⟨_, h3⟩
theorem ovl_step {s0 s s' : Store} {n : Nat} {rows : List (List V)} {v : V} (h : OVl s0 n rows v s) (hk : Kp s s') (hl : s.length ≤ s'.length) : OVl s0 n rows v s' := by
  refine ⟨Nat.le_trans h.le hl, h.kp.trans h.le hk, h.ob.imp id ?_⟩
  rintro ⟨id, h1, h2, h3⟩
  exact ⟨id, h1, h2, hk.box h3⟩
def QV (s : Store) (L : List QL) (v : V) : Prop := (L = [] ∧ (v = .nils ∨ v = .rows 2 [])) ∨ ∃ id, v = .sl id L.length 0 L.length ∧ s[id]? = some (.slc 2 (L.map QL.row))
theorem QV.one {s : Store} {L : List QL} {v : V} (h : QV s L v) : Go.Ab.one v = true := by
  rcases h with ⟨_, rfl | rfl⟩ | ⟨id, rfl, _⟩ <;> rfl
theorem QV.len {s : Store} {L : List QL} {v : V} (h : QV s L v) : lenSl v = some L.length := by
  rcases h with ⟨rfl, rfl | rfl⟩ | ⟨id, rfl, _⟩ <;> rfl
theorem QV.kp {s s' : Store} {L : List QL} {v : V} (h : QV s L v) (k : Kp s s') : QV s' L v := by
  rcases h with h | ⟨id, h1, h2⟩
  · exact .inl h
  · exact .inr ⟨id, h1, k.box h2⟩
def ofQ (key : List UInt8) (L : List QL) : List QL := L.filter fun q => q.x.Key == key
theorem ofQ_x (key : List UInt8) (L : List QL) : (ofQ key L).map QL.x = ofR key (L.map QL.x) := by
  rw [ofQ, ofR, List.filter_map]; rfl
theorem ofQ_le (key : List UInt8) (L : List QL) (k : Nat) : (ofQ key (L.take k)).length ≤ k := Nat.le_trans (List.length_filter_le _ _) (by simp; omega)
theorem ofQ_step {key : List UInt8} {L : List QL} {k : Nat} {x : QL} (h : L[k]? = some x) (hk : (x.x.Key == key) = true) : (ofQ key (L.take (k + 1))).map QL.row = (ofQ key (L.take k)).map QL.row ++ [x.row] := by
  rw [take_of h, ofQ, ofQ, List.filter_append, List.filter_cons, List.filter_nil, if_pos hk]; simp
theorem ofQ_skip {key : List UInt8} {L : List QL} {k : Nat} {x : QL} (h : L[k]? = some x) (hk : (x.x.Key == key) = false) : (ofQ key (L.take (k + 1))).map QL.row = (ofQ key (L.take k)).map QL.row := by
  rw [take_of h, ofQ, ofQ, List.filter_append, List.filter_cons, List.filter_nil, if_neg (by rw [hk]; simp)]; simp

set_option maxHeartbeats 8000000 in
theorem impl_ofV (kind name key : List UInt8) (L : List QL) (hb : L.length ≤ 1048576) (hL : ∀ q ∈ L, Go.Ab.one q.w = true) (lv : V) (σ : Store) (hl : QV σ L lv) : ACalls Tryd.prog 81 [.agg [.t (.str kind), .t (.str name), lv], .t (.str key)] σ fun r σ' => OVl σ 2 ((ofQ key L).map QL.row) r σ' := by
  refine acalls_of Tryd.func81 (by decide +kernel) (code := Tryd.f81.body.getD .skip) (n := 25) (c := c_impl_of) (rs := [(.tmp 4)]) rfl rfl k_impl_of (by kernel_rfl) (by simp) (fun hσ => ?_)
  have o0 := hl.one
  have l0 := hl.len
  simp only [lenSl] at l0
  obtain ⟨σ1, h1s⟩ : ∃ σ1 : Store, σ1 = σ ++ [Go.Ab.Obj.box [.t (.str kind), .t (.str name), lv]] := ⟨_, rfl⟩
  simp -implicitDefEqProofs only [c_impl_of, o0, l0, List.length_map, S0, S1, S2, S3, S4, S5, S6, S7, S8, S9, S10, S11, S12, S13, S14, S15, S16, S17, opv, opvs, eget, env0, setD, lenStr, lenSl, isNilP, isNilS, putAt, if_true, if_false, reduceCtorEq, Nat.reduceLeDiff, Nat.reduceEqDiff, Nat.reduceSub, Nat.reduceMul, Nat.reduceAdd]
  rw [← h1s]
  have h1l : σ.length ≤ σ1.length := by rw [h1s]; simp
  have k1 : Kp σ σ1 := by rw [h1s]; exact Kp.app σ _
  refine loop_g [5, 11, 1, 9, 10] [1, 9, 10] (fun g : Gl => [(5, g.v), (11, .t (.int .i64 (g.k : Nat)))]) Gl.s (fun g => g.k ≤ L.length ∧ OVl σ1 2 ((ofQ key (L.take g.k)).map QL.row) g.v g.s) (fun g => L.length - g.k) ⟨0, .nils, σ1⟩ h1l ⟨Nat.zero_le _, OVl.nils⟩ rfl rfl ?_
  rintro ⟨k, v, s⟩ ⟨hk, hv⟩
  simp only at hk hv
  have hone := hv.one
  have hsl := hv.le
  simp -implicitDefEqProofs only [keep, List.length_map, S0, S1, S2, S3, S4, S5, S6, S7, S8, S9, S10, S11, S12, S13, S14, S15, S16, S17, opv, opvs, eget, env0, setD, lenStr, lenSl, isNilP, isNilS, putAt, if_true, if_false, reduceCtorEq, Nat.reduceLeDiff, Nat.reduceEqDiff, Nat.reduceSub, Nat.reduceMul, Nat.reduceAdd]
  refine cond_split (fun h1 => ?_) (fun h1 => ?_)
  · obtain ⟨x, hx, hlt⟩ := at_of h1
    have more := i64_succ (show k < 4611686018427387904 by omega)
    have c1 : 0 < 1 := by omega
    have ox := hL x (List.mem_of_getElem? hx)
    rcases hl with ⟨h0, _⟩ | ⟨id, rfl, hob⟩
    · rw [h0] at hx; cases hx
    have hob' : s[id]? = some (.slc 2 (L.map QL.row)) := hv.kp.box (k1.box hob)
    have hrl : (L.map QL.row).length = L.length := List.length_map ..
    have hri : (L.map QL.row)[k]? = some [.t (.str x.x.Key), x.w] := by rw [List.getElem?_map, hx]; rfl
    have kx : ((k : Nat) : Int) < ((L.length : Nat) : Int) := by omega
    have hobA : ∀ τ : Store, (s ++ τ)[id]? = some (.slc 2 (L.map QL.row)) := fun τ => (Kp.app s τ).box hob'
    simp -implicitDefEqProofs only [hob', hobA, hrl, hri, kx, ox, Nat.zero_add, c1, nat_nn, Nat.zero_le, List.getElem?_map, Option.map_some, List.length_map, more, S0, S1, S2, S3, S4, S5, S6, S7, S8, S9, S10, S11, S12, S13, S14, S15, S16, S17, opv, opvs, eget, env0, setD, lenStr, lenSl, isNilP, isNilS, putAt, if_true, if_false, reduceCtorEq, Nat.reduceLeDiff, Nat.reduceEqDiff, Nat.reduceSub, Nat.reduceMul, Nat.reduceAdd]
    refine cond_split (fun h2 => ?_) (fun h2 => ?_)
    · have hst := ofQ_step hx h2
      simp -implicitDefEqProofs only [hobA, hrl, hri, kx, ox, Nat.zero_add, c1, hone, more, S0, S1, S2, S3, S4, S5, S6, S7, S8, S9, S10, S11, S12, S13, S14, S15, S16, S17, opv, opvs, eget, env0, setD, lenStr, lenSl, isNilP, isNilS, putAt, if_true, if_false, reduceCtorEq, Nat.reduceLeDiff, Nat.reduceEqDiff, Nat.reduceSub, Nat.reduceMul, Nat.reduceAdd]
      refine lit_rows ?_
      have hrow : ∀ s' : Store, rowsOf s' 2 (.rows 2 [[V.t (.str x.x.Key), x.w]]) = some [[V.t (.str x.x.Key), x.w]] := fun s' => rowsOf_rows (by simp only [List.all_cons, List.all_nil, ox, Bool.and_true]; rfl)
      simp -implicitDefEqProofs only [hrow, S0, S1, S2, S3, S4, S5, S6, S7, S8, S9, S10, S11, S12, S13, S14, S15, S16, S17, opv, opvs, eget, env0, setD, lenStr, lenSl, isNilP, isNilS, putAt, if_true, if_false, reduceCtorEq, Nat.reduceLeDiff, Nat.reduceEqDiff, Nat.reduceSub, Nat.reduceMul, Nat.reduceAdd]
      have hle := ofQ_le key L k
      refine (hv.more _).app (by simp only [List.length_map, List.length_cons, List.length_nil, maxBy]; omega) (by simp only [List.length_map, List.length_cons, List.length_nil]; omega) fun v' s' hl' _ hv' => ?_
      simp -implicitDefEqProofs only [more, S0, S1, S2, S3, S4, S5, S6, S7, S8, S9, S10, S11, S12, S13, S14, S15, S16, S17, opv, opvs, eget, env0, setD, lenStr, lenSl, isNilP, isNilS, putAt, if_true, if_false, reduceCtorEq, Nat.reduceLeDiff, Nat.reduceEqDiff, Nat.reduceSub, Nat.reduceMul, Nat.reduceAdd]
      exact lk_g ⟨k + 1, v', s'⟩ (by simp only; omega) ⟨by simp only; omega, by simp only; rw [hst]; exact hv'⟩ (by simp at hl'; omega) rfl rfl
    · have hst := ofQ_skip hx h2
      simp -implicitDefEqProofs only [more, S0, S1, S2, S3, S4, S5, S6, S7, S8, S9, S10, S11, S12, S13, S14, S15, S16, S17, opv, opvs, eget, env0, setD, lenStr, lenSl, isNilP, isNilS, putAt, if_true, if_false, reduceCtorEq, Nat.reduceLeDiff, Nat.reduceEqDiff, Nat.reduceSub, Nat.reduceMul, Nat.reduceAdd]
      exact lk_g ⟨k + 1, v, _⟩ (by simp only; omega) ⟨by simp only; omega, by simp only; rw [hst]; exact hv.more _⟩ (by simp; omega) rfl rfl
  · have hkk := end_of h1 hk
    rw [hkk, List.take_length] at hv
    simp -implicitDefEqProofs only [S0, S1, S2, S3, S4, S5, S6, S7, S8, S9, S10, S11, S12, S13, S14, S15, S16, S17, opv, opvs, eget, env0, setD, lenStr, lenSl, isNilP, isNilS, putAt, if_true, if_false, reduceCtorEq, Nat.reduceLeDiff, Nat.reduceEqDiff, Nat.reduceSub, Nat.reduceMul, Nat.reduceAdd]
    have hb2 := hv.base k1 h1l
    exact fin_keep hb2.le hb2

structure Gq where
  k : Nat
  v : V
  s : Store
  is : List Nat
theorem blk_own {s : Store} {b : SheetBlock} {v : V} {js : List Nat} (h : Own s (tSheetLineS b.Lines) v js) : OwnL s b.ts [.t (.str b.Kind), .t (.str b.Name), v] js := by
  simp only [SheetBlock.ts, OwnL]
  exact ⟨_, _, [], js, rfl, rfl, own_sc rfl, _, _, [], js, rfl, rfl, own_sc rfl, _, _, js, [], rfl, by simp, h, rfl, rfl⟩
def c_impl_clone_sheet : C := (.seq (.ops [⟨(some 1), none, (.box (.t 0))⟩, ⟨(some 2), none, (.new [.nils])⟩]) (.seq (.ops [⟨(some 3), none, (.new [.nils])⟩]) (.seq (.seq (.ops [⟨(some 6), none, (.fieldAddr 0 (.t 1))⟩, ⟨(some 7), none, (.load none (.t 6))⟩, ⟨(some 8), none, (.len false (.t 7))⟩, ⟨(some 9), none, (.mv (.c (.t (.int .i64 0))))⟩]) (.block 0 (.loop (.seq (.ops [⟨(some 10), none, (.bin .lss (.t 9) (.t 8))⟩]) (.seq (.cond (.t 10) .skip (.exit 0)) (.seq (.block 1 (.seq (.ops [⟨(some 11), none, (.indexAddr 3 (.t 7) (.t 9))⟩, ⟨(some 12), none, (.load (some 3) (.t 11))⟩, ⟨(some 5), none, (.new [(.t (.str [])), (.t (.str [])), .nils])⟩, ⟨none, none, (.store 3 (.t 5) (.t 12))⟩]) (.seq (.ops [⟨(some 13), none, (.fieldAddr 2 (.t 5))⟩, ⟨(some 14), none, (.load none (.t 13))⟩, ⟨(some 15), none, (.call (.c (.fn (.func 80) [])) [(.t 14)])⟩, ⟨(some 16), none, (.fieldAddr 2 (.t 5))⟩, ⟨none, none, (.store 1 (.t 16) (.t 15))⟩]) (.ops [⟨(some 17), none, (.fieldAddr 0 (.t 3))⟩, ⟨(some 18), none, (.load none (.t 17))⟩, ⟨(some 19), none, (.load (some 3) (.t 5))⟩, ⟨(some 20), none, (.lit none 3 1 [(.t (.str [])), (.t (.str [])), .nils] [⟨0, (.t 19)⟩])⟩, ⟨(some 21), none, (.append 3 56 (.t 18) (.t 20))⟩, ⟨(some 22), none, (.fieldAddr 0 (.t 3))⟩, ⟨none, none, (.store 1 (.t 22) (.t 21))⟩])))) (.ops [⟨(some 23), none, (.bin .add (.t 9) (.c (.t (.int .i64 1))))⟩, ⟨(some 9), none, (.mv (.t 23))⟩]))))))) (.seq (.ops [⟨(some 24), none, (.load (some 1) (.t 3))⟩, ⟨none, none, (.store 1 (.t 2) (.t 24))⟩]) .ret))))
theorem k_impl_clone_sheet : comp Tryd.prog 25 (Tryd.f87.body.getD .skip) = some c_impl_clone_sheet := by kernel_rfl

set_option maxHeartbeats 8000000 in
theorem impl_clone_sheet (bs : List SheetBlock) (hbs : SheetBlock.OkS bs) (σ : Store) : ACalls Tryd.prog 87 [.agg [.t (.lst 3 (bs.map SheetBlock.ts))]] σ (ToLR [tSheetBlockS bs] σ) := by
  refine acalls_of Tryd.func87 (by decide +kernel) (code := Tryd.f87.body.getD .skip) (n := 25) (c := c_impl_clone_sheet) (rs := [(.cell 2 (some 1))]) rfl rfl k_impl_clone_sheet (by kernel_rfl) (by simp) (fun hσ => ?_)
  have y1 := hbs.1
  simp -implicitDefEqProofs only [c_impl_clone_sheet, List.length_map, S0, S1, S2, S3, S4, S5, S6, S7, S8, S9, S10, S11, S12, S13, S14, S15, S16, S17, opv, opvs, eget, env0, setD, lenStr, lenSl, isNilP, isNilS, putAt, if_true, if_false, reduceCtorEq, Nat.reduceLeDiff, Nat.reduceEqDiff, Nat.reduceSub, Nat.reduceMul, Nat.reduceAdd]
  refine loop_g [9, 2, 3, 7, 8] [2, 3, 7, 8] (fun g : Gq => [(9, .t (.int .i64 (g.k : Nat)))]) Gq.s (fun g => g.k ≤ bs.length ∧ Kp σ g.s ∧ σ.length + 3 ≤ g.s.length ∧ Own g.s (.lst 3 ((bs.take g.k).map SheetBlock.ts)) g.v g.is ∧ Wi g.is (σ.length + 3) g.s.length ∧ g.s[σ.length]? = some (.box [.t (.lst 3 (bs.map SheetBlock.ts))]) ∧ g.s[σ.length + 1]? = some (.box [.nils]) ∧ g.s[σ.length + 2]? = some (.box [g.v])) (fun g => bs.length - g.k) ⟨0, .nils, σ ++ [.box [.t (.lst 3 (bs.map SheetBlock.ts))], .box [.nils], .box [.nils]], []⟩ (by simp) ⟨Nat.zero_le _, Kp.app _ _, by simp, by simp [Own], Wi.nil, by simp, by simp, by simp⟩ rfl rfl ?_
  rintro ⟨k, v, s, is⟩ ⟨hk, hkp, hle, ho, hw, e1, e2, e3⟩
  simp only at hk hkp hle ho hw e1 e2 e3
  have hone := ho.one
  simp -implicitDefEqProofs only [keep, e1, List.length_map, S0, S1, S2, S3, S4, S5, S6, S7, S8, S9, S10, S11, S12, S13, S14, S15, S16, S17, opv, opvs, eget, env0, setD, lenStr, lenSl, isNilP, isNilS, putAt, if_true, if_false, reduceCtorEq, Nat.reduceLeDiff, Nat.reduceEqDiff, Nat.reduceSub, Nat.reduceMul, Nat.reduceAdd]
  refine cond_split (fun h1 => ?_) (fun h1 => ?_)
  · obtain ⟨x, hx, hlt⟩ := at_of h1
    have more := i64_succ (show k < 4611686018427387904 by omega)
    have hxo := hbs.2 x (List.mem_of_getElem? hx)
    have htk : (bs.take (k + 1)).map SheetBlock.ts = (bs.take k).map SheetBlock.ts ++ [x.ts] := by rw [take_of hx]; simp
    have c3 : 0 < 3 := by omega
    simp -implicitDefEqProofs only [e1, e2, e3, hone, hx, block_row hx, c3, nat_nn, Nat.zero_le, List.getElem?_map, Option.map_some, List.length_map, SheetBlock.ts, SheetBlock.vs, S0, S1, S2, S3, S4, S5, S6, S7, S8, S9, S10, S11, S12, S13, S14, S15, S16, S17, opv, opvs, eget, env0, setD, lenStr, lenSl, isNilP, isNilS, putAt, if_true, if_false, reduceCtorEq, Nat.reduceLeDiff, Nat.reduceEqDiff, Nat.reduceSub, Nat.reduceMul, Nat.reduceAdd]
    have hcl := impl_cloneLines x.Lines hxo.Lines
    simp only [tSheetLineS] at hcl
    refine call_new (hcl _) ?_
    intro u s1 js hl1 hkp1 ho1 hw1
    have ou := ho1.one
    have b0 : s1[s.length]? = some (.box [.t (.str x.Kind), .t (.str x.Name), .t (.lst 2 (x.Lines.map SheetLine.ts))]) := hkp1.box (by rw [List.getElem?_append_right (by omega), Nat.sub_self]; rfl)
    simp only [List.length_append, List.length_cons, List.length_nil] at hl1 hw1
    have b1 : ∀ o : Go.Ab.Obj, (s1.set s.length o)[s.length]? = some o := fun o => List.getElem?_set_self (by omega)
    have ks1 : Kp s s1 := fun j hj => by rw [hkp1 j (by simp; omega), List.getElem?_append_left hj]
    have e3' : ∀ o : Go.Ab.Obj, (s1.set s.length o)[σ.length + 2]? = some (.box [v]) := fun o => by rw [List.getElem?_set_ne (by omega)]; exact ks1.box e3
    have hrow : ∀ (s' : Store), rowsOf s' 3 (.rows 3 [[.t (.str x.Kind), .t (.str x.Name), u]]) = some [[.t (.str x.Kind), .t (.str x.Name), u]] := fun s' => rowsOf_rows (by simp only [List.all_cons, List.all_nil, ou, Bool.and_true]; rfl)
    have c1 : 0 < 1 := by omega
    simp -implicitDefEqProofs only [b0, b1, e3', ou, one_cells ou, hone, c1, c3, more, S0, S1, S2, S3, S4, S5, S6, S7, S8, S9, S10, S11, S12, S13, S14, S15, S16, S17, opv, opvs, eget, env0, setD, lenStr, lenSl, isNilP, isNilS, putAt, if_true, if_false, reduceCtorEq, Nat.reduceLeDiff, Nat.reduceEqDiff, Nat.reduceSub, Nat.reduceMul, Nat.reduceAdd]
    refine lit_rows ?_
    simp -implicitDefEqProofs only [hrow, S0, S1, S2, S3, S4, S5, S6, S7, S8, S9, S10, S11, S12, S13, S14, S15, S16, S17, opv, opvs, eget, env0, setD, lenStr, lenSl, isNilP, isNilS, putAt, if_true, if_false, reduceCtorEq, Nat.reduceLeDiff, Nat.reduceEqDiff, Nat.reduceSub, Nat.reduceMul, Nat.reduceAdd]
    obtain ⟨s2, hs2⟩ : ∃ s2 : Store, s2 = s1.set s.length (.box [.t (.str x.Kind), .t (.str x.Name), u]) := ⟨_, rfl⟩
    rw [← hs2]
    have l2 : s2.length = s1.length := by rw [hs2, List.length_set]
    have kp2 : Kp s s2 := fun j hj => by rw [hs2, List.getElem?_set_ne (by omega)]; exact ks1 j hj
    have o2 : Own s2 (tSheetLineS x.Lines) u js := ho1.frame fun i hi => by
      have := hw1.2 i hi
      rw [hs2, List.getElem?_set_ne (by omega)]
    have g1 : s2[σ.length]? = some (.box [.t (.lst 3 (bs.map SheetBlock.ts))]) := kp2.box e1
    have g2 : s2[σ.length + 1]? = some (.box [.nils]) := kp2.box e2
    have g3 : s2[σ.length + 2]? = some (.box [v]) := kp2.box e3
    refine app_own' (kp2.own ho) (hw.mono (Nat.le_refl _) (by omega)) (r := x.ts) (js := js) (blk_own o2) (hw1.mono (by omega) (by omega)) (fun i hi => by have := hw.2 i hi; intro hm; have := hw1.2 i hm; omega) (by omega) (by simp only [maxBy, List.length_take, List.length_map]; omega) (by simp only [List.length_take, List.length_map]; omega) ?_
    intro v' s' is' hl' kb ho' hv' hw'
    have nb : ∀ p c, s2[p]? = some (Go.Ab.Obj.box c) → s'[p]? = some (Go.Ab.Obj.box c) := fun p c hp => by
      rw [kb p (List.getElem?_eq_some_iff.1 hp).1 (own_box (kp2.own ho) hp)]; exact hp
    have g3' := nb _ _ g3
    have ov := ho'.one
    simp -implicitDefEqProofs only [g3', ov, one_cells ov, more, S0, S1, S2, S3, S4, S5, S6, S7, S8, S9, S10, S11, S12, S13, S14, S15, S16, S17, opv, opvs, eget, env0, setD, lenStr, lenSl, isNilP, isNilS, putAt, if_true, if_false, reduceCtorEq, Nat.reduceLeDiff, Nat.reduceEqDiff, Nat.reduceSub, Nat.reduceMul, Nat.reduceAdd]
    have c3n : σ.length + 2 ∉ is' := own_box ho' g3'
    refine lk_g ⟨k + 1, v', s'.set (σ.length + 2) (.box [v']), is'⟩ (by simp only; omega) ⟨by simp only; omega, ?_, ?_, ?_, ?_, ?_, ?_, ?_⟩ (by rw [List.length_set]; omega) rfl rfl
    · refine Kp.set (fun j hj => ?_) (by omega)
      rw [kb j (by omega) (fun hm => by have := hw.2 j hm; omega), kp2 j (by omega), hkp j hj]
    · simp only [List.length_set]; omega
    · simp only
      rw [htk]
      exact set_own ho' c3n
    · simp only [List.length_set]; exact hw'
    · simp only
      rw [List.getElem?_set_ne (by omega)]; exact nb _ _ g1
    · simp only
      rw [List.getElem?_set_ne (by omega)]; exact nb _ _ g2
    · exact List.getElem?_set_self (by omega)
  · have hkk := end_of h1 hk
    rw [hkk, List.take_length] at ho
    have e2t : ∀ o : Go.Ab.Obj, (s.set (σ.length + 1) o)[σ.length + 1]? = some o := fun o => List.getElem?_set_self (by omega)
    simp -implicitDefEqProofs only [e1, e2, e3, e2t, hone, one_cells hone, S0, S1, S2, S3, S4, S5, S6, S7, S8, S9, S10, S11, S12, S13, S14, S15, S16, S17, opv, opvs, eget, env0, setD, lenStr, lenSl, isNilP, isNilS, putAt, if_true, if_false, reduceCtorEq, Nat.reduceLeDiff, Nat.reduceEqDiff, Nat.reduceSub, Nat.reduceMul, Nat.reduceAdd]
    refine fin_keep (by simp; omega) ⟨[v], _, is, rfl, kp_split (hkp.set (by omega)) (by simp; omega), ?_, hw.mono (by omega) (by simp)⟩
    simp only [OwnL]
    exact ⟨v, [], is, [], rfl, by simp, set_own ho (own_box ho e2), rfl, rfl⟩

end Go.Proofs.YtkppdeobinefbaaDoor.W

end
