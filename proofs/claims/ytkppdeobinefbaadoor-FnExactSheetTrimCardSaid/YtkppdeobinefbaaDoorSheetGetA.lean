/- Copies of lines and sheets. Conditions: none. -/
/- The lines of a key. Conditions: none. -/
import Derived.Test.YtkppdeobinefbaaDoorSheetValid
import Derived.Test.YtkppdeobinefbaaDoorAb4
import Derived.Test.YtkppdeobinefbaaDoorAb5
set_option linter.unusedSimpArgs false
set_option linter.unusedVariables false
set_option linter.defProp false

section
open Go Go.Ab
set_option maxHeartbeats 2000000
namespace Go.Proofs.YtkppdeobinefbaaDoor.W
theorem lines_own {s : Store} {x : SheetLine} {v : V} {js : List Nat} (h : Own s (tStrs x.Words) v js) : OwnL s x.ts [.t (.str x.Key), v] js := by
  simp only [SheetLine.ts, OwnL]
  exact ⟨_, _, [], js, rfl, rfl, own_sc rfl, _, _, js, [], rfl, by simp, h, rfl, rfl⟩

def c_impl_cloneLines : C := (.seq (.ops [⟨(some 2), none, (.mv (.c .nils))⟩]) (.seq (.ops [⟨(some 3), none, (.mv (.c .nils))⟩]) (.seq (.seq (.ops [⟨(some 6), none, (.mv (.t 0))⟩, ⟨(some 7), none, (.len false (.t 6))⟩, ⟨(some 8), none, (.mv (.c (.t (.int .i64 0))))⟩]) (.block 0 (.loop (.seq (.ops [⟨(some 9), none, (.bin .lss (.t 8) (.t 7))⟩]) (.seq (.cond (.t 9) .skip (.exit 0)) (.seq (.block 1 (.seq (.ops [⟨(some 10), none, (.indexAddr 2 (.t 6) (.t 8))⟩, ⟨(some 11), none, (.load (some 2) (.t 10))⟩, ⟨(some 5), none, (.new [(.t (.str [])), .nils])⟩, ⟨none, none, (.store 2 (.t 5) (.t 11))⟩]) (.seq (.ops [⟨(some 12), none, (.fieldAddr 1 (.t 5))⟩, ⟨(some 13), none, (.load none (.t 12))⟩, ⟨(some 14), none, (.append 1 16 (.c .nils) (.t 13))⟩, ⟨(some 15), none, (.fieldAddr 1 (.t 5))⟩, ⟨none, none, (.store 1 (.t 15) (.t 14))⟩]) (.ops [⟨(some 16), none, (.mv (.t 3))⟩, ⟨(some 17), none, (.load (some 2) (.t 5))⟩, ⟨(some 18), none, (.lit none 2 1 [(.t (.str [])), .nils] [⟨0, (.t 17)⟩])⟩, ⟨(some 19), none, (.append 2 40 (.t 16) (.t 18))⟩, ⟨(some 3), none, (.mv (.t 19))⟩])))) (.ops [⟨(some 20), none, (.bin .add (.t 8) (.c (.t (.int .i64 1))))⟩, ⟨(some 8), none, (.mv (.t 20))⟩]))))))) (.seq (.ops [⟨(some 21), none, (.mv (.t 3))⟩, ⟨(some 2), none, (.mv (.t 21))⟩]) .ret))))
theorem k_impl_cloneLines : comp Tryd.prog 22 (Tryd.f80.body.getD .skip) = some c_impl_cloneLines := by kernel_rfl

set_option maxHeartbeats 8000000 in
theorem impl_cloneLines (ls : List SheetLine) (hls : SheetLine.OkS ls) (σ : Store) : ACalls Tryd.prog 80 [.t (tSheetLineS ls)] σ (ToR (tSheetLineS ls) σ) := by
  refine acalls_of Tryd.func80 (by decide +kernel) (code := Tryd.f80.body.getD .skip) (n := 22) (c := c_impl_cloneLines) (rs := [(.tmp 2)]) rfl rfl k_impl_cloneLines (by kernel_rfl) (by simp) (fun hσ => ?_)
  have y1 := hls.1
  simp -implicitDefEqProofs only [c_impl_cloneLines, List.length_map, S0, S1, S2, S3, S4, S5, S6, S7, S8, S9, S10, S11, S12, S13, S14, S15, S16, S17, opv, opvs, eget, env0, setD, lenStr, lenSl, isNilP, isNilS, putAt, if_true, if_false, reduceCtorEq, Nat.reduceLeDiff, Nat.reduceEqDiff, Nat.reduceSub, Nat.reduceMul, Nat.reduceAdd]
  refine loop_g [3, 8, 6, 7] [6, 7] (fun g : Ga => [(3, g.v), (8, .t (.int .i64 (g.k : Nat)))]) Ga.s (OI σ 2 (ls.map SheetLine.ts)) (fun g => ls.length - g.k) ⟨0, .nils, σ, []⟩ (by simp) (OI.nil (by omega)) rfl rfl ?_
  rintro ⟨k, v, s, is⟩ ⟨hk, hl, hkp, ho, hv, hw⟩
  simp only [List.length_map] at hk hl hkp ho hv hw
  have hone := ho.one
  simp -implicitDefEqProofs only [keep, List.length_map, S0, S1, S2, S3, S4, S5, S6, S7, S8, S9, S10, S11, S12, S13, S14, S15, S16, S17, opv, opvs, eget, env0, setD, lenStr, lenSl, isNilP, isNilS, putAt, if_true, if_false, reduceCtorEq, Nat.reduceLeDiff, Nat.reduceEqDiff, Nat.reduceSub, Nat.reduceMul, Nat.reduceAdd]
  refine cond_split (fun h1 => ?_) (fun h1 => ?_)
  · obtain ⟨x, hx, hlt⟩ := at_of h1
    have hx' : (ls.map SheetLine.ts)[k]? = some x.ts := by rw [List.getElem?_map, hx]; rfl
    have hok := (hls.2 x (List.mem_of_getElem? hx)).Words
    have more := i64_succ (show k < 4611686018427387904 by omega)
    have c1 : 0 < 1 := by omega
    have b5 : x.Words.length * 16 ≤ maxBy := by have := hok.1; simp only [maxBy]; omega
    have b6 : x.Words.length ≤ 9223372036854775807 := by have := hok.1; omega
    simp -implicitDefEqProofs only [hx, nat_nn, Nat.zero_le, List.getElem?_map, Option.map_some, List.length_map, SheetLine.ts, SheetLine.vs, more, c1, b5, b6, S0, S1, S2, S3, S4, S5, S6, S7, S8, S9, S10, S11, S12, S13, S14, S15, S16, S17, opv, opvs, eget, env0, setD, lenStr, lenSl, isNilP, isNilS, putAt, if_true, if_false, reduceCtorEq, Nat.reduceLeDiff, Nat.reduceEqDiff, Nat.reduceSub, Nat.reduceMul, Nat.reduceAdd]
    refine lit_rows ?_
    have hrow : ∀ s' : Store, rowsOf s' 2 (.rows 2 [[V.t (.str x.Key), V.sl (s.length + 1) x.Words.length 0 x.Words.length]]) = some [[V.t (.str x.Key), V.sl (s.length + 1) x.Words.length 0 x.Words.length]] := fun s' => rowsOf_rows rfl
    simp -implicitDefEqProofs only [hrow, S0, S1, S2, S3, S4, S5, S6, S7, S8, S9, S10, S11, S12, S13, S14, S15, S16, S17, opv, opvs, eget, env0, setD, lenStr, lenSl, isNilP, isNilS, putAt, if_true, if_false, reduceCtorEq, Nat.reduceLeDiff, Nat.reduceEqDiff, Nat.reduceSub, Nat.reduceMul, Nat.reduceAdd]
    refine app_own ((Kp.app s _).own ho) hv (hw.mono (Nat.le_refl _) (by simp)) (r := x.ts) (js := [s.length + 1]) (lines_own (own_strs ?_ rfl)) ((wi_one _).mono (by omega) (by simp)) (fun i hi => by have := hw.2 i hi; simp; omega) (Nat.le_trans hl (by simp)) (by simp only [maxBy, List.length_take, List.length_map]; omega) (by simp only [List.length_take, List.length_map]; omega) ?_
    · rw [List.getElem?_append_right (by omega), Nat.add_sub_cancel_left]; rfl
    rintro v' s' is' hl' kb ho' hv' hw'
    simp -implicitDefEqProofs only [more, S0, S1, S2, S3, S4, S5, S6, S7, S8, S9, S10, S11, S12, S13, S14, S15, S16, S17, opv, opvs, eget, env0, setD, lenStr, lenSl, isNilP, isNilS, putAt, if_true, if_false, reduceCtorEq, Nat.reduceLeDiff, Nat.reduceEqDiff, Nat.reduceSub, Nat.reduceMul, Nat.reduceAdd]
    refine lk_g ⟨k + 1, v', s', is'⟩ (by simp only; omega) ?_ (by simp only [List.length_append, List.length_cons] at hl hl' ⊢; omega) rfl rfl
    exact OI.next (kp_app2 hkp) (by simp only [List.length_append, List.length_cons] at hl ⊢; omega) hx' kb hw hl' ho' hv' hw'
  · have hkk := end_of h1 (by simpa using hk)
    rw [hkk, List.take_of_length_le (by simp)] at ho
    simp -implicitDefEqProofs only [S0, S1, S2, S3, S4, S5, S6, S7, S8, S9, S10, S11, S12, S13, S14, S15, S16, S17, opv, opvs, eget, env0, setD, lenStr, lenSl, isNilP, isNilS, putAt, if_true, if_false, reduceCtorEq, Nat.reduceLeDiff, Nat.reduceEqDiff, Nat.reduceSub, Nat.reduceMul, Nat.reduceAdd]
    exact fin_keep hl ⟨_, is, kp_split hkp hl, ho, hw⟩

def c_spec_l39Lines : C := (.seq (.ops [⟨(some 2), none, (.mv (.c .nils))⟩]) (.seq (.ops [⟨(some 5), none, (.lit none 2 0 [(.t (.str [])), .nils] [])⟩, ⟨(some 3), none, (.mv (.t 5))⟩]) (.seq (.seq (.ops [⟨(some 4), none, (.mv (.c (.t (.int .i64 0))))⟩]) (.block 0 (.loop (.seq (.seq (.ops [⟨(some 6), none, (.mv (.t 4))⟩, ⟨(some 7), none, (.mv (.t 0))⟩, ⟨(some 8), none, (.len false (.t 7))⟩, ⟨(some 9), none, (.bin .lss (.t 6) (.t 8))⟩]) (.cond (.t 9) .skip (.exit 0))) (.seq (.block 1 (.drawn [(.mk 0 false ⟨(some 12), none, (.mv (.t 3))⟩ []), (.mk 1 false ⟨(some 13), none, (.mv (.t 0))⟩ []), (.mk 2 false ⟨(some 14), none, (.mv (.t 4))⟩ []), (.mk 3 false ⟨(some 15), none, (.indexAddr 2 (.t 13) (.t 14))⟩ []), (.mk 4 false ⟨(some 16), none, (.fieldAddr 0 (.t 15))⟩ []), (.mk 5 false ⟨(some 17), none, (.load none (.t 16))⟩ []), (.mk 6 false ⟨(some 18), none, (.lit (some false) 1 0 [(.t (.str []))] [])⟩ []), (.mk 7 false ⟨(some 19), none, (.mv (.t 0))⟩ []), (.mk 8 false ⟨(some 20), none, (.mv (.t 4))⟩ []), (.mk 9 false ⟨(some 21), none, (.indexAddr 2 (.t 19) (.t 20))⟩ []), (.mk 10 false ⟨(some 22), none, (.fieldAddr 1 (.t 21))⟩ []), (.mk 11 false ⟨(some 23), none, (.load none (.t 22))⟩ []), (.mk 12 true ⟨(some 24), none, (.append 1 16 (.t 18) (.t 23))⟩ [⟨(some 15), none, (.indexAddr 2 (.t 13) (.t 14))⟩, ⟨(some 17), none, (.load none (.t 16))⟩]), (.mk 13 false ⟨(some 25), none, (.build [(.t (.str [])), .nils] [⟨0, ⟨1, (.t 17)⟩⟩, ⟨1, ⟨1, (.t 24)⟩⟩])⟩ []), (.mk 14 false ⟨(some 26), none, (.lit (some false) 2 1 [(.t (.str [])), .nils] [⟨0, (.t 25)⟩])⟩ []), (.mk 15 false ⟨(some 27), none, (.append 2 40 (.t 12) (.t 26))⟩ []), (.mk 16 true ⟨(some 3), none, (.mv (.t 27))⟩ [])])) (.ops [⟨(some 10), none, (.mv (.t 4))⟩, ⟨(some 11), none, (.bin .add (.t 10) (.c (.t (.int .i64 1))))⟩, ⟨(some 4), none, (.mv (.t 11))⟩])))))) (.seq (.ops [⟨(some 28), none, (.mv (.t 3))⟩, ⟨(some 2), none, (.mv (.t 28))⟩]) .ret))))
theorem k_spec_l39Lines : comp Tryd.prog 29 (Tryd.f113.body.getD .skip) = some c_spec_l39Lines := by kernel_rfl

set_option maxHeartbeats 8000000 in
theorem spec_l39LinesO (ls : List SheetLine) (hls : SheetLine.OkS ls) (σ : Store) : ACalls Tryd.prog 113 [.t (tSheetLineS ls)] σ (ToR (tSheetLineS ls) σ) := by
  refine acalls_of Tryd.func113 (by decide +kernel) (code := Tryd.f113.body.getD .skip) (n := 29) (c := c_spec_l39Lines) (rs := [(.tmp 2)]) rfl rfl k_spec_l39Lines (by kernel_rfl) (by simp) (fun hσ => ?_)
  have y1 := hls.1
  have c2 : 0 < 2 := by omega
  simp -implicitDefEqProofs only [c_spec_l39Lines, List.length_map, c2, S0, S1, S2, S3, S4, S5, S6, S7, S8, S9, S10, S11, S12, S13, S14, S15, S16, S17, opv, opvs, eget, env0, setD, lenStr, lenSl, isNilP, isNilS, putAt, if_true, if_false, reduceCtorEq, Nat.reduceLeDiff, Nat.reduceEqDiff, Nat.reduceSub, Nat.reduceMul, Nat.reduceAdd]
  refine lit_own ?_
  simp -implicitDefEqProofs only [List.length_map, S0, S1, S2, S3, S4, S5, S6, S7, S8, S9, S10, S11, S12, S13, S14, S15, S16, S17, opv, opvs, eget, env0, setD, lenStr, lenSl, isNilP, isNilS, putAt, if_true, if_false, reduceCtorEq, Nat.reduceLeDiff, Nat.reduceEqDiff, Nat.reduceSub, Nat.reduceMul, Nat.reduceAdd]
  refine loop_g [3, 4, 0] [0] (fun g : Ga => [(3, g.v), (4, .t (.int .i64 (g.k : Nat)))]) Ga.s (OI σ 2 (ls.map SheetLine.ts)) (fun g => ls.length - g.k) ⟨0, _, _, _⟩ (by simp) (OI.lit' (by omega) rfl rfl) rfl rfl ?_
  rintro ⟨k, v, s, is⟩ ⟨hk, hl, hkp, ho, hv, hw⟩
  simp only [List.length_map] at hk hl hkp ho hv hw
  have hone := ho.one
  simp -implicitDefEqProofs only [keep, List.length_map, S0, S1, S2, S3, S4, S5, S6, S7, S8, S9, S10, S11, S12, S13, S14, S15, S16, S17, opv, opvs, eget, env0, setD, lenStr, lenSl, isNilP, isNilS, putAt, if_true, if_false, reduceCtorEq, Nat.reduceLeDiff, Nat.reduceEqDiff, Nat.reduceSub, Nat.reduceMul, Nat.reduceAdd]
  refine cond_split (fun h1 => ?_) (fun h1 => ?_)
  · obtain ⟨x, hx, hlt⟩ := at_of h1
    have hx' : (ls.map SheetLine.ts)[k]? = some x.ts := by rw [List.getElem?_map, hx]; rfl
    have hok := (hls.2 x (List.mem_of_getElem? hx)).Words
    have more := i64_succ (show k < 4611686018427387904 by omega)
    have c1 : 0 < 1 := by omega
    have b5 : x.Words.length * 16 ≤ maxBy := by have := hok.1; simp only [maxBy]; omega
    have b6 : x.Words.length ≤ 9223372036854775807 := by have := hok.1; omega
    have hrow : ∀ (s' : Store) (u : V), Go.Ab.one u = true → rowsOf s' 2 (.rows 2 [[V.t (.str x.Key), u]]) = some [[V.t (.str x.Key), u]] := fun s' u h => rowsOf_rows (by simp only [List.all_cons, List.all_nil, h, Bool.and_true]; rfl)
    have hrow1 : ∀ (s' : Store) (m : Nat), rowsOf s' 2 (.rows 2 [[V.t (.str x.Key), V.sl s.length m 0 m]]) = some [[V.t (.str x.Key), V.sl s.length m 0 m]] := fun s' m => hrow s' _ rfl
    have hrow2 : ∀ (s' : Store), rowsOf s' 2 (.rows 2 [[V.t (.str x.Key), V.rows 1 []]]) = some [[V.t (.str x.Key), V.rows 1 []]] := fun s' => hrow s' _ rfl
    simp -implicitDefEqProofs only [hx, nat_nn, Nat.zero_le, List.getElem?_map, Option.map_some, List.length_map, SheetLine.ts, SheetLine.vs, more, c1, c2, b5, b6, hone, S0, S1, S2, S3, S4, S5, S6, S7, S8, S9, S10, S11, S12, S13, S14, S15, S16, S17, opv, opvs, eget, env0, setD, lenStr, lenSl, isNilP, isNilS, putAt, if_true, if_false, reduceCtorEq, Nat.reduceLeDiff, Nat.reduceEqDiff, Nat.reduceSub, Nat.reduceMul, Nat.reduceAdd]
    refine ⟨fun he => ?_, fun he => ?_⟩
    · have hw0 : x.Words = [] := by simpa using he
      have pre0 : preσ s s := ⟨[], by simp⟩
      simp -implicitDefEqProofs only [hrow1, hrow2, c1, c2, pre0, S0, S1, S2, S3, S4, S5, S6, S7, S8, S9, S10, S11, S12, S13, S14, S15, S16, S17, opv, opvs, eget, env0, setD, lenStr, lenSl, isNilP, isNilS, putAt, if_true, if_false, reduceCtorEq, Nat.reduceLeDiff, Nat.reduceEqDiff, Nat.reduceSub, Nat.reduceMul, Nat.reduceAdd]
      refine app_own ho hv hw (r := x.ts) (js := []) (lines_own (by rw [hw0]; simp [Own])) Wi.nil (fun i hi => by simp) hl (by simp only [maxBy, List.length_take, List.length_map]; omega) (by simp only [List.length_take, List.length_map]; omega) ?_
      rintro v' s' is' hl' kb ho' hv' hw'
      try simp -implicitDefEqProofs only [more, S0, S1, S2, S3, S4, S5, S6, S7, S8, S9, S10, S11, S12, S13, S14, S15, S16, S17, opv, opvs, eget, env0, setD, lenStr, lenSl, isNilP, isNilS, putAt, if_true, if_false, reduceCtorEq, Nat.reduceLeDiff, Nat.reduceEqDiff, Nat.reduceSub, Nat.reduceMul, Nat.reduceAdd]
      refine lk_g ⟨k + 1, v', s', is'⟩ (by simp only; omega) ?_ (by omega) rfl rfl
      exact OI.next hkp hl hx' kb hw hl' ho' hv' hw'
    · have pre1 : ∀ o, preσ s (s ++ [o]) := fun o => ⟨_, rfl⟩
      simp -implicitDefEqProofs only [hrow1, hrow2, c1, c2, pre1, List.length_map, S0, S1, S2, S3, S4, S5, S6, S7, S8, S9, S10, S11, S12, S13, S14, S15, S16, S17, opv, opvs, eget, env0, setD, lenStr, lenSl, isNilP, isNilS, putAt, if_true, if_false, reduceCtorEq, Nat.reduceLeDiff, Nat.reduceEqDiff, Nat.reduceSub, Nat.reduceMul, Nat.reduceAdd]
      refine app_own ((Kp.app s _).own ho) hv (hw.mono (Nat.le_refl _) (by simp)) (r := x.ts) (js := [s.length]) (lines_own (own_strs ?_ rfl)) ((wi_one _).mono (by omega) (by simp)) (fun i hi => by have := hw.2 i hi; simp; omega) (Nat.le_trans hl (by simp)) (by simp only [maxBy, List.length_take, List.length_map]; omega) (by simp only [List.length_take, List.length_map]; omega) ?_
      · rw [List.getElem?_append_right (by omega), Nat.sub_self]; rfl
      rintro v' s' is' hl' kb ho' hv' hw'
      try simp -implicitDefEqProofs only [more, S0, S1, S2, S3, S4, S5, S6, S7, S8, S9, S10, S11, S12, S13, S14, S15, S16, S17, opv, opvs, eget, env0, setD, lenStr, lenSl, isNilP, isNilS, putAt, if_true, if_false, reduceCtorEq, Nat.reduceLeDiff, Nat.reduceEqDiff, Nat.reduceSub, Nat.reduceMul, Nat.reduceAdd]
      refine lk_g ⟨k + 1, v', s', is'⟩ (by simp only; omega) ?_ (by simp only [List.length_append, List.length_cons, List.length_nil] at hl hl' ⊢; omega) rfl rfl
      exact OI.next (kp_app2 hkp) (by simp only [List.length_append, List.length_cons, List.length_nil] at hl ⊢; omega) hx' kb hw hl' ho' hv' hw'
  · have hkk := end_of h1 (by simpa using hk)
    rw [hkk, List.take_of_length_le (by simp)] at ho
    simp -implicitDefEqProofs only [S0, S1, S2, S3, S4, S5, S6, S7, S8, S9, S10, S11, S12, S13, S14, S15, S16, S17, opv, opvs, eget, env0, setD, lenStr, lenSl, isNilP, isNilS, putAt, if_true, if_false, reduceCtorEq, Nat.reduceLeDiff, Nat.reduceEqDiff, Nat.reduceSub, Nat.reduceMul, Nat.reduceAdd]
    exact fin_keep hl ⟨_, is, kp_split hkp hl, ho, hw⟩

end Go.Proofs.YtkppdeobinefbaaDoor.W

end


section
open Go Go.Ab
set_option maxHeartbeats 2000000
namespace Go.Proofs.YtkppdeobinefbaaDoor.W
def ofR (key : List UInt8) (ls : List SheetLine) : List SheetLine := ls.filter fun x => x.Key == key
theorem ofR_step {key : List UInt8} {ls : List SheetLine} {k : Nat} {x : SheetLine} (h : ls[k]? = some x) : ofR key (ls.take (k + 1)) = ofR key (ls.take k) ++ (if (x.Key == key) = true then [x] else []) := by
  rw [take_of h, ofR, List.filter_append, List.filter_cons, List.filter_nil]
  rfl
theorem ofR_le (key : List UInt8) (ls : List SheetLine) (k : Nat) : (ofR key (ls.take k)).length ≤ k := Nat.le_trans (List.length_filter_le _ _) (by simp; omega)
theorem ofR_ok {key : List UInt8} {ls : List SheetLine} (h : SheetLine.OkS ls) : SheetLine.OkS (ofR key ls) :=
  ⟨Nat.le_trans (List.length_filter_le _ _) h.1, fun y hy => h.2 y ((List.mem_filter.1 hy).1)⟩
structure Gl where
  k : Nat
  v : V
  s : Store
abbrev rowsV (ls : List SheetLine) : List (List V) := (ls.map SheetLine.ts).map fun r => r.map .t
theorem rowsV_step {key : List UInt8} {ls : List SheetLine} {k : Nat} {x : SheetLine} (h : ls[k]? = some x) (hk : (x.Key == key) = true) : rowsV (ofR key (ls.take (k + 1))) = rowsV (ofR key (ls.take k)) ++ [x.ts.map .t] := by
  rw [ofR_step h, if_pos hk]; simp [rowsV]
theorem rowsV_skip {key : List UInt8} {ls : List SheetLine} {k : Nat} {x : SheetLine} (h : ls[k]? = some x) (hk : (x.Key == key) = false) : rowsV (ofR key (ls.take (k + 1))) = rowsV (ofR key (ls.take k)) := by
  rw [ofR_step h, if_neg (by rw [hk]; simp)]; simp

def c_impl_of : C := (.seq (.ops [⟨(some 2), none, (.box (.t 0))⟩, ⟨(some 4), none, (.mv (.c .nils))⟩]) (.seq (.ops [⟨(some 5), none, (.mv (.c .nils))⟩]) (.seq (.seq (.ops [⟨(some 8), none, (.fieldAddr 2 (.t 2))⟩, ⟨(some 9), none, (.load none (.t 8))⟩, ⟨(some 10), none, (.len false (.t 9))⟩, ⟨(some 11), none, (.mv (.c (.t (.int .i64 0))))⟩]) (.block 0 (.loop (.seq (.ops [⟨(some 12), none, (.bin .lss (.t 11) (.t 10))⟩]) (.seq (.cond (.t 12) .skip (.exit 0)) (.seq (.block 1 (.seq (.ops [⟨(some 13), none, (.indexAddr 2 (.t 9) (.t 11))⟩, ⟨(some 14), none, (.load (some 2) (.t 13))⟩, ⟨(some 7), none, (.new [(.t (.str [])), .nils])⟩, ⟨none, none, (.store 2 (.t 7) (.t 14))⟩]) (.seq (.ops [⟨(some 15), none, (.fieldAddr 0 (.t 7))⟩, ⟨(some 16), none, (.load none (.t 15))⟩, ⟨(some 17), none, (.mv (.t 1))⟩, ⟨(some 18), none, (.bin .eql (.t 16) (.t 17))⟩]) (.cond (.t 18) (.ops [⟨(some 19), none, (.mv (.t 5))⟩, ⟨(some 20), none, (.load (some 2) (.t 7))⟩, ⟨(some 21), none, (.lit none 2 1 [(.t (.str [])), .nils] [⟨0, (.t 20)⟩])⟩, ⟨(some 22), none, (.append 2 40 (.t 19) (.t 21))⟩, ⟨(some 5), none, (.mv (.t 22))⟩]) .skip)))) (.ops [⟨(some 23), none, (.bin .add (.t 11) (.c (.t (.int .i64 1))))⟩, ⟨(some 11), none, (.mv (.t 23))⟩]))))))) (.seq (.ops [⟨(some 24), none, (.mv (.t 5))⟩, ⟨(some 4), none, (.mv (.t 24))⟩]) .ret))))
theorem k_impl_of : comp Tryd.prog 25 (Tryd.f81.body.getD .skip) = some c_impl_of := by kernel_rfl

set_option maxHeartbeats 8000000 in
theorem impl_of (b : SheetBlock) (hb : b.Ok) (key : List UInt8) (σ : Store) : ACalls Tryd.prog 81 [.agg b.vs, .t (.str key)] σ fun r σ' => r = .t (tSheetLineS (ofR key b.Lines)) ∧ σ' = σ := by
  refine acalls_frz1 (t := tSheetLineS (ofR key b.Lines)) ?_
  refine acalls_of Tryd.func81 (by decide +kernel) (code := Tryd.f81.body.getD .skip) (n := 25) (c := c_impl_of) (rs := [(.tmp 4)]) rfl rfl k_impl_of (by kernel_rfl) (by simp) (fun hσ => ?_)
  have y1 := hb.Lines.1
  simp -implicitDefEqProofs only [c_impl_of, SheetBlock.vs, List.length_map, S0, S1, S2, S3, S4, S5, S6, S7, S8, S9, S10, S11, S12, S13, S14, S15, S16, S17, opv, opvs, eget, env0, setD, lenStr, lenSl, isNilP, isNilS, putAt, if_true, if_false, reduceCtorEq, Nat.reduceLeDiff, Nat.reduceEqDiff, Nat.reduceSub, Nat.reduceMul, Nat.reduceAdd]
  obtain ⟨ls, hls⟩ : ∃ ls, ls = b.Lines := ⟨_, rfl⟩
  rw [← hls] at y1 ⊢
  obtain ⟨σ1, h1s⟩ : ∃ σ1, σ1 = σ ++ [.box [.t (.str b.Kind), .t (.str b.Name), .t (.lst 2 (ls.map SheetLine.ts))]] := ⟨_, rfl⟩
  rw [← h1s]
  have h1l : σ.length ≤ σ1.length := by rw [h1s]; simp
  refine loop_g [5, 11, 1, 9, 10] [1, 9, 10] (fun g : Gl => [(5, g.v), (11, .t (.int .i64 (g.k : Nat)))]) Gl.s (fun g => g.k ≤ ls.length ∧ OVl σ1 2 (rowsV (ofR key (ls.take g.k))) g.v g.s) (fun g => ls.length - g.k) ⟨0, .nils, σ1⟩ h1l ⟨Nat.zero_le _, OVl.nils⟩ rfl rfl ?_
  rintro ⟨k, v, s⟩ ⟨hk, hv⟩
  simp only at hk hv
  have hone := hv.one
  have hsl := hv.le
  simp -implicitDefEqProofs only [keep, List.length_map, S0, S1, S2, S3, S4, S5, S6, S7, S8, S9, S10, S11, S12, S13, S14, S15, S16, S17, opv, opvs, eget, env0, setD, lenStr, lenSl, isNilP, isNilS, putAt, if_true, if_false, reduceCtorEq, Nat.reduceLeDiff, Nat.reduceEqDiff, Nat.reduceSub, Nat.reduceMul, Nat.reduceAdd]
  refine cond_split (fun h1 => ?_) (fun h1 => ?_)
  · obtain ⟨x, hx, hlt⟩ := at_of h1
    have more := i64_succ (show k < 4611686018427387904 by omega)
    have c1 : 0 < 1 := by omega
    simp -implicitDefEqProofs only [hx, nat_nn, Nat.zero_le, List.getElem?_map, Option.map_some, List.length_map, SheetLine.ts, SheetLine.vs, more, c1, S0, S1, S2, S3, S4, S5, S6, S7, S8, S9, S10, S11, S12, S13, S14, S15, S16, S17, opv, opvs, eget, env0, setD, lenStr, lenSl, isNilP, isNilS, putAt, if_true, if_false, reduceCtorEq, Nat.reduceLeDiff, Nat.reduceEqDiff, Nat.reduceSub, Nat.reduceMul, Nat.reduceAdd]
    refine cond_split (fun h2 => ?_) (fun h2 => ?_)
    · have hst := rowsV_step hx h2
      simp -implicitDefEqProofs only [hx, nat_nn, Nat.zero_le, List.getElem?_map, Option.map_some, List.length_map, SheetLine.ts, SheetLine.vs, more, c1, hone, S0, S1, S2, S3, S4, S5, S6, S7, S8, S9, S10, S11, S12, S13, S14, S15, S16, S17, opv, opvs, eget, env0, setD, lenStr, lenSl, isNilP, isNilS, putAt, if_true, if_false, reduceCtorEq, Nat.reduceLeDiff, Nat.reduceEqDiff, Nat.reduceSub, Nat.reduceMul, Nat.reduceAdd]
      refine lit_rows ?_
      have hrow : ∀ s' : Store, rowsOf s' 2 (.rows 2 [[V.t (.str x.Key), V.t (.lst 1 (x.Words.map tStr))]]) = some [[V.t (.str x.Key), V.t (.lst 1 (x.Words.map tStr))]] := fun s' => rowsOf_rows rfl
      simp -implicitDefEqProofs only [hrow, S0, S1, S2, S3, S4, S5, S6, S7, S8, S9, S10, S11, S12, S13, S14, S15, S16, S17, opv, opvs, eget, env0, setD, lenStr, lenSl, isNilP, isNilS, putAt, if_true, if_false, reduceCtorEq, Nat.reduceLeDiff, Nat.reduceEqDiff, Nat.reduceSub, Nat.reduceMul, Nat.reduceAdd]
      have hle := ofR_le key ls k
      refine (hv.more _).app (by simp only [List.length_map, List.length_cons, List.length_nil, maxBy]; omega) (by simp only [List.length_map, List.length_cons, List.length_nil]; omega) fun v' s' hl' _ hv' => ?_
      simp -implicitDefEqProofs only [more, S0, S1, S2, S3, S4, S5, S6, S7, S8, S9, S10, S11, S12, S13, S14, S15, S16, S17, opv, opvs, eget, env0, setD, lenStr, lenSl, isNilP, isNilS, putAt, if_true, if_false, reduceCtorEq, Nat.reduceLeDiff, Nat.reduceEqDiff, Nat.reduceSub, Nat.reduceMul, Nat.reduceAdd]
      exact lk_g ⟨k + 1, v', s'⟩ (by simp only; omega) ⟨by simp only; omega, by simp only; rw [hst]; exact hv'⟩ (by simp at hl'; omega) rfl rfl
    · have hst := rowsV_skip hx h2
      simp -implicitDefEqProofs only [hx, nat_nn, Nat.zero_le, List.getElem?_map, Option.map_some, List.length_map, SheetLine.ts, SheetLine.vs, more, c1, S0, S1, S2, S3, S4, S5, S6, S7, S8, S9, S10, S11, S12, S13, S14, S15, S16, S17, opv, opvs, eget, env0, setD, lenStr, lenSl, isNilP, isNilS, putAt, if_true, if_false, reduceCtorEq, Nat.reduceLeDiff, Nat.reduceEqDiff, Nat.reduceSub, Nat.reduceMul, Nat.reduceAdd]
      exact lk_g ⟨k + 1, v, _⟩ (by simp only; omega) ⟨by simp only; omega, by simp only; rw [hst]; exact hv.more _⟩ (by simp; omega) rfl rfl
  · have hkk := end_of h1 hk
    rw [hkk, List.take_length] at hv
    simp -implicitDefEqProofs only [S0, S1, S2, S3, S4, S5, S6, S7, S8, S9, S10, S11, S12, S13, S14, S15, S16, S17, opv, opvs, eget, env0, setD, lenStr, lenSl, isNilP, isNilS, putAt, if_true, if_false, reduceCtorEq, Nat.reduceLeDiff, Nat.reduceEqDiff, Nat.reduceSub, Nat.reduceMul, Nat.reduceAdd]
    have hb2 : OVl σ 2 (rowsV (ofR key ls)) v s := hv.base (by rw [h1s]; exact Kp.app σ _) h1l
    obtain ⟨τ, hτ⟩ := hb2.split
    exact fin_keep hb2.le ⟨τ, hτ, hb2.sees (by omega)⟩

theorem line_sees (s : Store) : ∀ ls : List SheetLine, SeesRows s (ls.map SheetLine.ts) (rowsV ls)
  | [] => by simp [SeesRows, rowsV]
  | x :: ls => by
    simp only [List.map_cons, rowsV, SeesRows]
    refine ⟨_, _, rfl, ?_, line_sees s ls⟩
    simp only [SheetLine.ts, List.map_cons, List.map_nil, SeesL]
    refine ⟨_, _, rfl, by simp only [Sees], _, _, rfl, ?_, rfl⟩
    simp only [Sees]
    exact ⟨_, by simp [rowsOf], seesR_sc (tStr_flat x.Words), by omega⟩
theorem lines_seesA {s0 s : Store} {ls : List SheetLine} {v : V} (h : OVl s0 2 (rowsV ls) v s) : SeesAs s [.t (tSheetLineS ls)] [v] :=
  ⟨_, _, rfl, .inl ⟨_, rfl, by simp only [Sees]; exact ⟨_, h.rowsOf, line_sees s ls, by omega⟩⟩, rfl⟩

theorem spec_l39Lines (ls : List SheetLine) (hls : SheetLine.OkS ls) (σ : Store) : ACalls Tryd.prog 113 [.t (tSheetLineS ls)] σ fun r σ' => r = .t (tSheetLineS ls) ∧ σ' = σ := acalls_frzT (spec_l39LinesO ls hls σ)

end Go.Proofs.YtkppdeobinefbaaDoor.W

end
