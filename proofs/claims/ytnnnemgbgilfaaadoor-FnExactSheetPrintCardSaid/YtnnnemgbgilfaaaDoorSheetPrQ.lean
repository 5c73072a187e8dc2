/- What a sheet reads written out: the plain law. Conditions: none. -/
/- A line written out, on both sides. Conditions: none. -/
/- How long a sound sheet's text may be. Conditions: none. -/
import Derived.Test.YtnnnemgbgilfaaaDoorSheetValid
import Derived.Test.YtnnnemgbgilfaaaDoorSheetWord
import Derived.Test.YtnnnemgbgilfaaaDoorSheetRuleI
set_option linter.unusedSimpArgs false
set_option linter.unusedVariables false
set_option linter.defProp false

section
open Go Go.Ab
namespace Go.Proofs.YtnnnemgbgilfaaaDoor.W
def lineT (x : SheetLine) : List UInt8 := x.Key ++ x.Words.flatMap fun w => 32 :: encW w
def blockT (b : SheetBlock) : List UInt8 := (b.Kind ++ [32] ++ b.Name ++ [10]) ++ (b.Lines.flatMap fun x => [32, 32] ++ lineT x ++ [10]) ++ [101, 110, 100, 10]
def sheetT (bs : List SheetBlock) : List UInt8 := bs.flatMap blockT
def linesN (bs : List SheetBlock) : Nat := (bs.map fun b => b.Lines.length + 2).sum
/-- How many lines a text has. -/
def linesOf (t : List UInt8) : Nat := if (splitB 10 t).getLast? = some [] then (splitB 10 t).length - 1 else (splitB 10 t).length
theorem no10_hex (n : Nat) : hexD n ≠ 10 := by
  rw [hexD]
  rcases Nat.lt_or_ge n 16 with h | h
  · have : ∀ m : Fin 16, ((hexS[m.val]?).getD 0) ≠ 10 := by decide
    exact this ⟨n, h⟩
  · rw [List.getElem?_eq_none (by simpa [hexS] using h)]
    decide
theorem no10_self {c : UInt8} (h : selfB c = true) : c ≠ 10 := by
  rintro rfl
  revert h; decide
theorem no10_bare {c : UInt8} (h : bareB c = true) : c ≠ 10 := by
  rintro rfl
  revert h; decide
theorem no10_enc1 (c : UInt8) : (10 : UInt8) ∉ enc1 c := by
  rw [enc1]
  split
  · rename_i h
    simpa using (no10_self h).symm
  · simp only [List.mem_cons, List.not_mem_nil, or_false]
    rintro (h | h | h)
    · exact absurd h (by decide)
    · exact no10_hex _ h.symm
    · exact no10_hex _ h.symm
theorem no10_enc (w : List UInt8) : (10 : UInt8) ∉ encW w := by
  rw [encW]
  split
  · rename_i h
    simp only [Bool.and_eq_true, List.all_eq_true] at h
    exact fun h10 => no10_bare (h.2 _ h10) rfl
  · simp only [List.mem_cons, List.mem_append, List.mem_flatMap, List.not_mem_nil, or_false]
    rintro (h | ⟨c, _, h⟩ | h)
    · exact absurd h (by decide)
    · exact no10_enc1 c h
    · exact absurd h (by decide)
theorem no10_line {x : SheetLine} (h : (10 : UInt8) ∉ x.Key) : (10 : UInt8) ∉ lineT x := by
  rw [lineT]
  simp only [List.mem_append, List.mem_flatMap, List.mem_cons]
  rintro (h1 | ⟨w, _, h1 | h1⟩)
  · exact h h1
  · exact absurd h1 (by decide)
  · exact no10_enc w h1
theorem no10_kind {k : List UInt8} (h : kindOk k = true) : (10 : UInt8) ∉ k := by
  simp only [kindOk, Bool.or_eq_true, beq_iff_eq] at h
  rcases h with (rfl | rfl) | rfl <;> decide
theorem no10_name {s : List UInt8} (h : nameS s = true) : (10 : UInt8) ∉ s := by
  simp only [nameS, Bool.and_eq_true, List.all_eq_true] at h
  intro h10
  have := h.2 _ h10
  revert this; decide
theorem no10_key {kind key : List UInt8} {ws : List (List UInt8)} (h : fitsR kind key ws = true) : (10 : UInt8) ∉ key := by
  rw [fitsR] at h
  split at h
  · cases h
  · rename_i x hx
    obtain ⟨h1, rfl⟩ := rule_in hx
    rw [rulesR] at h1
    have all : ∀ l : List SheetRule, (l.all fun r => !(r.Key.contains 10)) = true → x ∈ l → (10 : UInt8) ∉ x.Key := fun l hl hm => by
      have := List.all_eq_true.1 hl x hm
      simpa using this
    split at h1
    · exact all _ (by decide) h1
    · split at h1
      · exact all _ (by decide) h1
      · split at h1
        · exact all _ (by decide) h1
        · cases h1
theorem cnt_no {l : List UInt8} (h : (10 : UInt8) ∉ l) : l.count 10 = 0 := List.count_eq_zero.2 h
theorem cnt_lines : ∀ {ls : List SheetLine}, (∀ x ∈ ls, (10 : UInt8) ∉ x.Key) → (ls.flatMap fun x => [32, 32] ++ lineT x ++ [10]).count 10 = ls.length
  | [], _ => rfl
  | x :: ls, h => by
    have ih := cnt_lines (ls := ls) fun y hy => h y (by simp [hy])
    have hx := cnt_no (no10_line (h x (by simp)))
    simp only [List.flatMap_cons, List.count_append, ih, hx, List.length_cons]
    have e1 : List.count (10 : UInt8) [32, 32] = 0 := by decide
    have e2 : List.count (10 : UInt8) [10] = 1 := by decide
    omega
theorem cnt_block {b : SheetBlock} (h : blockR b = true) : (blockT b).count 10 = b.Lines.length + 2 := by
  simp only [blockR, Bool.and_eq_true] at h
  obtain ⟨⟨h1, h2⟩, h3⟩ := h
  have hl := cnt_lines (ls := b.Lines) fun x hx => by
    obtain ⟨i, hi, rfl⟩ := List.getElem_of_mem hx
    have := List.all_eq_true.1 h3 (b.Lines[i], i) (by
      rw [List.mem_iff_getElem?]
      exact ⟨i, by rw [List.getElem?_zipIdx, List.getElem?_eq_getElem hi]; simp⟩)
    simp only [lineP, Bool.and_eq_true] at this
    exact no10_key this.1.1
  simp only [blockT, List.count_append, hl, cnt_no (no10_kind h1), cnt_no (no10_name h2)]
  have e1 : List.count (10 : UInt8) [32] = 0 := by decide
  have e2 : List.count (10 : UInt8) [10] = 1 := by decide
  have e3 : List.count (10 : UInt8) [101, 110, 100, 10] = 1 := by decide
  omega
theorem cnt_sheet : ∀ {bs : List SheetBlock}, (∀ b ∈ bs, blockR b = true) → (sheetT bs).count 10 = linesN bs
  | [], _ => rfl
  | b :: bs, h => by
    have ih := cnt_sheet (bs := bs) fun y hy => h y (by simp [hy])
    have hb := cnt_block (h b (by simp))
    simp only [sheetT, linesN] at ih
    simp only [sheetT, linesN, List.flatMap_cons, List.count_append, hb, ih, List.map_cons, List.sum_cons]
theorem sheet_blocks {s : Sheet} (h : sheetR s = true) : ∀ b ∈ s.Blocks, blockR b = true := by
  simp only [sheetR, Bool.and_eq_true] at h
  intro b hb
  obtain ⟨i, hi, rfl⟩ := List.getElem_of_mem hb
  have := List.all_eq_true.1 h.2 (s.Blocks[i], i) (by
    rw [List.mem_iff_getElem?]
    exact ⟨i, by rw [List.getElem?_zipIdx, List.getElem?_eq_getElem hi]; simp⟩)
  simp only [sheetP, Bool.and_eq_true] at this
  exact this.1
theorem split_ne (c : UInt8) : ∀ t, splitB c t ≠ []
  | [] => by simp [splitB]
  | x :: r => by
    rw [splitB]
    split
    · simp
    · split <;> simp
theorem split_last (c : UInt8) : ∀ t : List UInt8, (splitB c t).getLast? = some [] ↔ (t = [] ∨ t.getLast? = some c)
  | [] => by simp [splitB]
  | x :: r => by
    have ih := split_last c r
    rw [splitB]
    have hne := split_ne c r
    split
    · rename_i h
      have hx : x = c := by simpa using h
      obtain ⟨p, q, hpq⟩ := List.exists_cons_of_ne_nil hne
      rw [hpq] at ih ⊢
      rw [List.getLast?_cons_cons, ih]
      cases r with
      | nil => simp [hx]
      | cons y r => simp
    · rename_i h
      have hx : x ≠ c := by simpa using h
      split
      · rename_i e; exact absurd e hne
      · rename_i p q e
        rw [e] at ih
        cases r with
        | nil =>
          simp [splitB] at e
          obtain ⟨rfl, rfl⟩ := e
          simp [hx]
        | cons y r =>
          cases q with
          | nil =>
            simp at ih ⊢
            rw [← ih]
            cases p with
            | nil =>
              exfalso
              have hl := splitB_len c (y :: r)
              rw [e] at hl
              have h0 : (y :: r).count c = 0 := by simpa using hl
              have : (y :: r).getLast? = some c := by
                have := ih.1 rfl
                simpa using this
              have hm := List.mem_of_getLast? this
              have := List.count_pos_iff.2 hm
              omega
            | cons a p => simp
          | cons q0 q => simpa using ih
theorem linesOf_cnt {t : List UInt8} (h : t = [] ∨ t.getLast? = some 10) : linesOf t = t.count 10 := by
  rw [linesOf, if_pos ((split_last 10 t).2 h), splitB_len]
  omega
theorem sheetT_end : ∀ bs : List SheetBlock, sheetT bs = [] ∨ (sheetT bs).getLast? = some 10
  | [] => .inl rfl
  | b :: bs => by
    right
    rw [sheetT, List.flatMap_cons]
    rcases sheetT_end bs with h | h
    · rw [sheetT] at h
      rw [h, List.append_nil, blockT, List.getLast?_append]; simp
    · rw [sheetT] at h
      rw [List.getLast?_append, h]; rfl
/-- A sound sheet has as many lines as its blocks have. -/
theorem sheet_lines {s : Sheet} (h : sheetR s = true) : linesOf (sheetT s.Blocks) = linesN s.Blocks := by
  rw [linesOf_cnt (sheetT_end _), cnt_sheet (sheet_blocks h)]
end Go.Proofs.YtnnnemgbgilfaaaDoor.W

end


section
open Go Go.Ab
set_option maxHeartbeats 2000000
namespace Go.Proofs.YtnnnemgbgilfaaaDoor.W
theorem enc1_len (c : UInt8) : (enc1 c).length ≤ 3 := by
  rw [enc1]; split <;> simp
theorem encW_len (w : List UInt8) : (encW w).length ≤ 3 * w.length + 2 := by
  have h : ∀ l : List UInt8, (l.flatMap enc1).length ≤ 3 * l.length := by
    intro l
    induction l with
    | nil => simp
    | cons c l ih =>
      have := enc1_len c
      simp only [List.flatMap_cons, List.length_append, List.length_cons]
      omega
  rw [encW]
  split
  · omega
  · have := h w
    simp only [List.length_cons, List.length_append, List.length_nil]
    omega
def wordsT (ws : List (List UInt8)) : List UInt8 := ws.flatMap fun w => 32 :: encW w
theorem wordsT_len {ws : List (List UInt8)} (h : ∀ w ∈ ws, w.length ≤ 1048576) : (wordsT ws).length ≤ ws.length * 3145731 := by
  induction ws with
  | nil => simp [wordsT]
  | cons w ws ih =>
    have i := ih fun y hy => h y (by simp [hy])
    have a := encW_len w
    have b := h w (by simp)
    simp only [wordsT, List.flatMap_cons, List.length_append, List.length_cons] at *
    omega
theorem wordsT_step {ws : List (List UInt8)} {k : Nat} {w : List UInt8} (h : ws[k]? = some w) : wordsT (ws.take (k + 1)) = wordsT (ws.take k) ++ (32 :: encW w) := by
  rw [take_of h, wordsT, List.flatMap_append]; simp [wordsT]
theorem take_small {ws : List (List UInt8)} (h : StrsOk ws) (k : Nat) : (wordsT (ws.take k)).length ≤ 1048576 * 3145731 := by
  have a := wordsT_len (ws := ws.take k) fun w hw => h.2 w (List.mem_of_mem_take hw)
  have b := h.1
  have c : (ws.take k).length ≤ ws.length := by rw [List.length_take]; exact Nat.min_le_right _ _
  exact Nat.le_trans a (Nat.mul_le_mul_right _ (by omega))

def c_spec_l40Line : C := (.seq (.ops [⟨(some 1), none, (.box (.t 0))⟩, ⟨(some 2), none, (.mv (.c (.t (.str []))))⟩]) (.seq (.ops [⟨(some 5), none, (.fieldAddr 0 (.t 1))⟩, ⟨(some 6), none, (.load none (.t 5))⟩, ⟨(some 3), none, (.mv (.t 6))⟩]) (.seq (.seq (.ops [⟨(some 4), none, (.mv (.c (.t (.int .i64 0))))⟩]) (.block 0 (.loop (.seq (.seq (.ops [⟨(some 7), none, (.mv (.t 4))⟩, ⟨(some 8), none, (.fieldAddr 1 (.t 1))⟩, ⟨(some 9), none, (.load none (.t 8))⟩, ⟨(some 10), none, (.len false (.t 9))⟩, ⟨(some 11), none, (.bin .lss (.t 7) (.t 10))⟩]) (.cond (.t 11) .skip (.exit 0))) (.seq (.block 1 (.ops [⟨(some 14), none, (.mv (.t 3))⟩, ⟨(some 15), none, (.bin .add (.t 14) (.c (.t (.str [32]))))⟩, ⟨(some 16), none, (.fieldAddr 1 (.t 1))⟩, ⟨(some 17), none, (.load none (.t 16))⟩, ⟨(some 18), none, (.mv (.t 4))⟩, ⟨(some 19), none, (.indexAddr 1 (.t 17) (.t 18))⟩, ⟨(some 20), none, (.load none (.t 19))⟩, ⟨(some 21), none, (.call (.c (.fn (.func 76) [])) [(.t 20)])⟩, ⟨(some 22), none, (.bin .add (.t 15) (.t 21))⟩, ⟨(some 3), none, (.mv (.t 22))⟩])) (.ops [⟨(some 12), none, (.mv (.t 4))⟩, ⟨(some 13), none, (.bin .add (.t 12) (.c (.t (.int .i64 1))))⟩, ⟨(some 4), none, (.mv (.t 13))⟩])))))) (.seq (.ops [⟨(some 23), none, (.mv (.t 3))⟩, ⟨(some 2), none, (.mv (.t 23))⟩]) .ret))))
theorem k_spec_l40Line : comp Tryd.prog 24 (Tryd.f50.body.getD .skip) = some c_spec_l40Line := by kernel_rfl

theorem spec_l40Line (x : SheetLine) (hx : x.Ok)  (σ : Store) : ACalls Tryd.prog 50 [.agg (x.vs)] σ fun rr σ' => rr = .t (.str (lineT x)) ∧ σ' = σ := by
  refine acalls_of Tryd.func50 (by decide +kernel) (code := Tryd.f50.body.getD .skip) (n := 24) (c := c_spec_l40Line) (rs := [(.tmp 2)]) rfl rfl k_spec_l40Line (by kernel_rfl) (by simp) (fun hσ => ?_)
  have hh : True := trivial
  have fin : ∀ {u : V} {τ : Store}, u = .t (.str (lineT x)) → u.lt σ.length = true → retV σ.length (fun rr σ' => rr = .t (.str (lineT x)) ∧ σ' = σ) (σ ++ τ) (some [u]) := fun h h2 => ret_same rfl hσ h2 ⟨h, rfl⟩
  have fin0 : ∀ {u : V}, u = .t (.str (lineT x)) → retV σ.length (fun rr σ' => rr = .t (.str (lineT x)) ∧ σ' = σ) σ (some [u]) := fun h => ret_same0 rfl ⟨h, rfl⟩
  have hw := hx.Words
  have hk := hx.Key
  simp -implicitDefEqProofs only [c_spec_l40Line, SheetLine.vs, List.length_map, S0, S1, S2, S3, S4, S5, S6, S7, S8, S9, S10, S11, S12, S13, S14, S15, S16, S17, opv, opvs, eget, env0, setD, lenStr, lenSl, isNilP, isNilS, putAt, if_true, if_false, reduceCtorEq, Nat.reduceLeDiff, Nat.reduceEqDiff, Nat.reduceSub, Nat.reduceMul, Nat.reduceAdd]
  refine loop_s [3, 4, 1] [1] (fun k : Nat => [(3, .t (.str (x.Key ++ wordsT (x.Words.take k)))), (4, .t (.int .i64 (k : Nat)))]) (fun _ => σ ++ [.box [.t (.str x.Key), .t (.lst 1 (x.Words.map tStr))]]) (fun k => k ≤ x.Words.length) (fun k => x.Words.length - k) 0 (σ.length + 1) (fun _ => by simp) (by omega) (Nat.zero_le _) rfl (by simp [keep, eget, wordsT]) ?_
  rintro k hkl
  simp -implicitDefEqProofs only [keep, List.length_map, S0, S1, S2, S3, S4, S5, S6, S7, S8, S9, S10, S11, S12, S13, S14, S15, S16, S17, opv, opvs, eget, env0, setD, lenStr, lenSl, isNilP, isNilS, putAt, if_true, if_false, reduceCtorEq, Nat.reduceLeDiff, Nat.reduceEqDiff, Nat.reduceSub, Nat.reduceMul, Nat.reduceAdd]
  refine cond_split (fun h1 => ?_) (fun h1 => ?_)
  · obtain ⟨w, hx2, hlt⟩ := at_of h1
    have more := i64_succ (show k < 4611686018427387904 by have := hw.1; omega)
    have hwl := hw.2 w (mem_at hx2)
    have e1 := take_small hw k
    have e2 := encW_len w
    have e3 : (x.Key ++ wordsT (x.Words.take k)).length ≤ 1048576 + 1048576 * 3145731 := by rw [List.length_append]; omega
    simp -implicitDefEqProofs only [hx2, more, tStr, nat_nn, Nat.zero_le, List.getElem?_map, Option.map_some, List.length_map, S0, S1, S2, S3, S4, S5, S6, S7, S8, S9, S10, S11, S12, S13, S14, S15, S16, S17, opv, opvs, eget, env0, setD, lenStr, lenSl, isNilP, isNilS, putAt, if_true, if_false, reduceCtorEq, Nat.reduceLeDiff, Nat.reduceEqDiff, Nat.reduceSub, Nat.reduceMul, Nat.reduceAdd]
    repeat' (first
      | (refine ⟨by simp only [List.length_append, List.length_cons, List.length_nil] at *; omega, ?_⟩; (try simp -implicitDefEqProofs only [hx2, more, tStr, nat_nn, Nat.zero_le, List.getElem?_map, Option.map_some, List.length_map, S0, S1, S2, S3, S4, S5, S6, S7, S8, S9, S10, S11, S12, S13, S14, S15, S16, S17, opv, opvs, eget, env0, setD, lenStr, lenSl, isNilP, isNilS, putAt, if_true, if_false, reduceCtorEq, Nat.reduceLeDiff, Nat.reduceEqDiff, Nat.reduceSub, Nat.reduceMul, Nat.reduceAdd]))
      | ((with_reducible refine call_pure (spec_SheetWord w hwl _) ?_); (try simp -implicitDefEqProofs only [hx2, more, tStr, nat_nn, Nat.zero_le, List.getElem?_map, Option.map_some, List.length_map, S0, S1, S2, S3, S4, S5, S6, S7, S8, S9, S10, S11, S12, S13, S14, S15, S16, S17, opv, opvs, eget, env0, setD, lenStr, lenSl, isNilP, isNilS, putAt, if_true, if_false, reduceCtorEq, Nat.reduceLeDiff, Nat.reduceEqDiff, Nat.reduceSub, Nat.reduceMul, Nat.reduceAdd])))
    first
      | exact lk_s0 (k + 1) (by simp) (by omega) rfl (by omega) (by omega) (by simp [keep, eget, wordsT_step hx2])
      | exact lk_s (k + 1) (by simp) (by omega) rfl (by omega) (by omega) (by rw [q_ltσ_app, ltσ_mono (Nat.le_succ _) hσ]; rfl) (by simp [ltE, keep, eget, V.lt]) (by simp [keep, eget, wordsT_step hx2])
  · have hkk := end_of h1 hkl
    subst hkk
    simp -implicitDefEqProofs only [S0, S1, S2, S3, S4, S5, S6, S7, S8, S9, S10, S11, S12, S13, S14, S15, S16, S17, opv, opvs, eget, env0, setD, lenStr, lenSl, isNilP, isNilS, putAt, if_true, if_false, reduceCtorEq, Nat.reduceLeDiff, Nat.reduceEqDiff, Nat.reduceSub, Nat.reduceMul, Nat.reduceAdd]
    rw [List.take_of_length_le (Nat.le_refl _)]
    first | exact fin rfl rfl | exact fin0 rfl

def c_impl_form : C := (.seq (.ops [⟨(some 1), none, (.box (.t 0))⟩, ⟨(some 2), none, (.mv (.c (.t (.str []))))⟩]) (.seq (.ops [⟨(some 6), none, (.fieldAddr 0 (.t 1))⟩, ⟨(some 7), none, (.load none (.t 6))⟩, ⟨(some 3), none, (.mv (.t 7))⟩]) (.seq (.seq (.ops [⟨(some 8), none, (.fieldAddr 1 (.t 1))⟩, ⟨(some 9), none, (.load none (.t 8))⟩, ⟨(some 10), none, (.len false (.t 9))⟩, ⟨(some 11), none, (.mv (.c (.t (.int .i64 0))))⟩]) (.block 0 (.loop (.seq (.ops [⟨(some 12), none, (.bin .lss (.t 11) (.t 10))⟩]) (.seq (.cond (.t 12) .skip (.exit 0)) (.seq (.block 1 (.seq (.ops [⟨(some 13), none, (.indexAddr 1 (.t 9) (.t 11))⟩, ⟨(some 14), none, (.load none (.t 13))⟩, ⟨(some 5), none, (.mv (.t 14))⟩]) (.ops [⟨(some 15), none, (.mv (.t 3))⟩, ⟨(some 16), none, (.mv (.t 5))⟩, ⟨(some 17), none, (.call (.c (.fn (.func 79) [])) [(.t 16)])⟩, ⟨(some 18), none, (.bin .add (.c (.t (.str [32]))) (.t 17))⟩, ⟨(some 19), none, (.bin .add (.t 15) (.t 18))⟩, ⟨(some 3), none, (.mv (.t 19))⟩]))) (.ops [⟨(some 20), none, (.bin .add (.t 11) (.c (.t (.int .i64 1))))⟩, ⟨(some 11), none, (.mv (.t 20))⟩]))))))) (.seq (.ops [⟨(some 21), none, (.mv (.t 3))⟩, ⟨(some 2), none, (.mv (.t 21))⟩]) .ret))))
theorem k_impl_form : comp Tryd.prog 22 (Tryd.f53.body.getD .skip) = some c_impl_form := by kernel_rfl

theorem impl_form (x : SheetLine) (hx : x.Ok)  (σ : Store) : ACalls Tryd.prog 53 [.agg (x.vs)] σ fun rr σ' => rr = .t (.str (lineT x)) ∧ σ' = σ := by
  refine acalls_of Tryd.func53 (by decide +kernel) (code := Tryd.f53.body.getD .skip) (n := 22) (c := c_impl_form) (rs := [(.tmp 2)]) rfl rfl k_impl_form (by kernel_rfl) (by simp) (fun hσ => ?_)
  have hh : True := trivial
  have fin : ∀ {u : V} {τ : Store}, u = .t (.str (lineT x)) → u.lt σ.length = true → retV σ.length (fun rr σ' => rr = .t (.str (lineT x)) ∧ σ' = σ) (σ ++ τ) (some [u]) := fun h h2 => ret_same rfl hσ h2 ⟨h, rfl⟩
  have fin0 : ∀ {u : V}, u = .t (.str (lineT x)) → retV σ.length (fun rr σ' => rr = .t (.str (lineT x)) ∧ σ' = σ) σ (some [u]) := fun h => ret_same0 rfl ⟨h, rfl⟩
  have hw := hx.Words
  have hk := hx.Key
  simp -implicitDefEqProofs only [c_impl_form, SheetLine.vs, List.length_map, S0, S1, S2, S3, S4, S5, S6, S7, S8, S9, S10, S11, S12, S13, S14, S15, S16, S17, opv, opvs, eget, env0, setD, lenStr, lenSl, isNilP, isNilS, putAt, if_true, if_false, reduceCtorEq, Nat.reduceLeDiff, Nat.reduceEqDiff, Nat.reduceSub, Nat.reduceMul, Nat.reduceAdd]
  refine loop_s [3, 11, 9, 10] [9, 10] (fun k : Nat => [(3, .t (.str (x.Key ++ wordsT (x.Words.take k)))), (11, .t (.int .i64 (k : Nat)))]) (fun _ => σ ++ [.box [.t (.str x.Key), .t (.lst 1 (x.Words.map tStr))]]) (fun k => k ≤ x.Words.length) (fun k => x.Words.length - k) 0 (σ.length + 1) (fun _ => by simp) (by omega) (Nat.zero_le _) rfl (by simp [keep, eget, wordsT]) ?_
  rintro k hkl
  simp -implicitDefEqProofs only [keep, List.length_map, S0, S1, S2, S3, S4, S5, S6, S7, S8, S9, S10, S11, S12, S13, S14, S15, S16, S17, opv, opvs, eget, env0, setD, lenStr, lenSl, isNilP, isNilS, putAt, if_true, if_false, reduceCtorEq, Nat.reduceLeDiff, Nat.reduceEqDiff, Nat.reduceSub, Nat.reduceMul, Nat.reduceAdd]
  refine cond_split (fun h1 => ?_) (fun h1 => ?_)
  · obtain ⟨w, hx2, hlt⟩ := at_of h1
    have more := i64_succ (show k < 4611686018427387904 by have := hw.1; omega)
    have hwl := hw.2 w (mem_at hx2)
    have e1 := take_small hw k
    have e2 := encW_len w
    have e3 : (x.Key ++ wordsT (x.Words.take k)).length ≤ 1048576 + 1048576 * 3145731 := by rw [List.length_append]; omega
    simp -implicitDefEqProofs only [hx2, more, tStr, nat_nn, Nat.zero_le, List.getElem?_map, Option.map_some, List.length_map, S0, S1, S2, S3, S4, S5, S6, S7, S8, S9, S10, S11, S12, S13, S14, S15, S16, S17, opv, opvs, eget, env0, setD, lenStr, lenSl, isNilP, isNilS, putAt, if_true, if_false, reduceCtorEq, Nat.reduceLeDiff, Nat.reduceEqDiff, Nat.reduceSub, Nat.reduceMul, Nat.reduceAdd]
    repeat' (first
      | (refine ⟨by simp only [List.length_append, List.length_cons, List.length_nil] at *; omega, ?_⟩; (try simp -implicitDefEqProofs only [hx2, more, tStr, nat_nn, Nat.zero_le, List.getElem?_map, Option.map_some, List.length_map, S0, S1, S2, S3, S4, S5, S6, S7, S8, S9, S10, S11, S12, S13, S14, S15, S16, S17, opv, opvs, eget, env0, setD, lenStr, lenSl, isNilP, isNilS, putAt, if_true, if_false, reduceCtorEq, Nat.reduceLeDiff, Nat.reduceEqDiff, Nat.reduceSub, Nat.reduceMul, Nat.reduceAdd]))
      | ((with_reducible refine call_pure (impl_SheetWord w hwl _) ?_); (try simp -implicitDefEqProofs only [hx2, more, tStr, nat_nn, Nat.zero_le, List.getElem?_map, Option.map_some, List.length_map, S0, S1, S2, S3, S4, S5, S6, S7, S8, S9, S10, S11, S12, S13, S14, S15, S16, S17, opv, opvs, eget, env0, setD, lenStr, lenSl, isNilP, isNilS, putAt, if_true, if_false, reduceCtorEq, Nat.reduceLeDiff, Nat.reduceEqDiff, Nat.reduceSub, Nat.reduceMul, Nat.reduceAdd])))
    first
      | exact lk_s0 (k + 1) (by simp) (by omega) rfl (by omega) (by omega) (by simp [keep, eget, wordsT_step hx2])
      | exact lk_s (k + 1) (by simp) (by omega) rfl (by omega) (by omega) (by rw [q_ltσ_app, ltσ_mono (Nat.le_succ _) hσ]; rfl) (by simp [ltE, keep, eget, V.lt]) (by simp [keep, eget, wordsT_step hx2])
  · have hkk := end_of h1 hkl
    subst hkk
    simp -implicitDefEqProofs only [S0, S1, S2, S3, S4, S5, S6, S7, S8, S9, S10, S11, S12, S13, S14, S15, S16, S17, opv, opvs, eget, env0, setD, lenStr, lenSl, isNilP, isNilS, putAt, if_true, if_false, reduceCtorEq, Nat.reduceLeDiff, Nat.reduceEqDiff, Nat.reduceSub, Nat.reduceMul, Nat.reduceAdd]
    rw [List.take_of_length_le (Nat.le_refl _)]
    first | exact fin rfl rfl | exact fin0 rfl

end Go.Proofs.YtnnnemgbgilfaaaDoor.W

end


section
open Go Go.Ab
namespace Go.Proofs.YtnnnemgbgilfaaaDoor.W
theorem typeOk_len {t : Int} {s : List UInt8} (h : typeOk t s = true) : s.length ≤ 200 := by
  have hn : ∀ s : List UInt8, numOk s = true → s.length ≤ 7 := fun s h => by
    simp only [numOk, Bool.and_eq_true, decide_eq_true_eq] at h
    omega
  unfold typeOk at h
  split at h
  · have := hn s h; omega
  · split at h
    · simp only [Bool.or_eq_true, Bool.and_eq_true] at h
      rcases h with h | h
      · have := hn s h; omega
      · have := hn _ h.2
        simp only [List.length_drop] at this
        omega
    · split at h
      · simp only [nameS, wi, Bool.and_eq_true, decide_eq_true_eq] at h
        omega
      · split at h
        · simpa using h
        · split at h
          · simp only [Bool.or_eq_true, beq_iff_eq] at h
            rcases h with rfl | rfl <;> decide
          · simp only [Bool.or_eq_true, beq_iff_eq] at h
            rcases h with (rfl | rfl) | rfl <;> decide
theorem fits_len {kind key : List UInt8} {ws : List (List UInt8)} (h : fitsR kind key ws = true) : key.length ≤ 1000 ∧ ws.length ≤ 5 ∧ ∀ w ∈ ws, w.length ≤ 200 := by
  rw [fitsR] at h
  split at h
  · cases h
  · rename_i x hx
    obtain ⟨h1, rfl⟩ := rule_in hx
    simp only [Bool.and_eq_true, beq_iff_eq] at h
    obtain ⟨ha, hall⟩ := h
    have h5 := (rule_args hx).1
    have hs := (ruleSmall_is (List.all_eq_true.1 (rules_small kind).2 x h1)).2
    simp only [SheetRule.ts, sizeSheetRule] at hs
    refine ⟨by omega, by omega, fun w hw => ?_⟩
    obtain ⟨i, hi, rfl⟩ := List.getElem_of_mem hw
    have hia : i < x.Args.length := by omega
    have := List.all_eq_true.1 hall (x.Args[i], i) (by
      rw [List.mem_iff_getElem?]
      exact ⟨i, by rw [List.getElem?_zipIdx, List.getElem?_eq_getElem hia]; simp⟩)
    simp only [fitP, List.getElem?_eq_getElem hi, Option.getD_some] at this
    exact typeOk_len this
theorem line_len {kind : List UInt8} {x : SheetLine} (h : fitsR kind x.Key x.Words = true) : (lineT x).length ≤ 5000 := by
  obtain ⟨h1, h2, h3⟩ := fits_len h
  have hw : ∀ ws : List (List UInt8), (∀ w ∈ ws, w.length ≤ 200) → (ws.flatMap fun w => 32 :: encW w).length ≤ ws.length * 603 := by
    intro ws
    induction ws with
    | nil => simp
    | cons w ws ih =>
      intro hw
      have i := ih fun y hy => hw y (by simp [hy])
      have a := encW_len w
      have b := hw w (by simp)
      simp only [List.flatMap_cons, List.length_append, List.length_cons]
      omega
  have := hw x.Words h3
  rw [lineT, List.length_append]
  omega
def linesTx (ls : List SheetLine) : List UInt8 := ls.flatMap fun x => [32, 32] ++ lineT x ++ [10]
theorem linesTx_step {ls : List SheetLine} {k : Nat} {x : SheetLine} (h : ls[k]? = some x) : linesTx (ls.take (k + 1)) = linesTx (ls.take k) ++ ([32, 32] ++ lineT x ++ [10]) := by
  rw [take_of h, linesTx, List.flatMap_append]; simp [linesTx]
theorem sheetT_step {bs : List SheetBlock} {k : Nat} {b : SheetBlock} (h : bs[k]? = some b) : sheetT (bs.take (k + 1)) = sheetT (bs.take k) ++ blockT b := by
  rw [take_of h, sheetT, List.flatMap_append]; simp [sheetT]
theorem linesN_step {bs : List SheetBlock} {k : Nat} {b : SheetBlock} (h : bs[k]? = some b) : linesN (bs.take (k + 1)) = linesN (bs.take k) + (b.Lines.length + 2) := by
  rw [take_of h, linesN, List.map_append, List.sum_append]; simp [linesN]
theorem block_line {b : SheetBlock} (h : blockR b = true) {x : SheetLine} (hx : x ∈ b.Lines) : (lineT x).length ≤ 5000 := by
  simp only [blockR, Bool.and_eq_true] at h
  obtain ⟨i, hi, rfl⟩ := List.getElem_of_mem hx
  have := List.all_eq_true.1 h.2 (b.Lines[i], i) (by
    rw [List.mem_iff_getElem?]
    exact ⟨i, by rw [List.getElem?_zipIdx, List.getElem?_eq_getElem hi]; simp⟩)
  simp only [lineP, Bool.and_eq_true] at this
  exact line_len this.1.1
theorem linesTx_len : ∀ {ls : List SheetLine}, (∀ x ∈ ls, (lineT x).length ≤ 5000) → (linesTx ls).length ≤ ls.length * 5003
  | [], _ => by simp [linesTx]
  | x :: ls, h => by
    have i := linesTx_len (ls := ls) fun y hy => h y (by simp [hy])
    have a := h x (by simp)
    simp only [linesTx, List.flatMap_cons, List.length_append, List.length_cons, List.length_nil] at *
    omega
theorem linesTx_take {b : SheetBlock} (h : blockR b = true) (hb : b.Ok) (k : Nat) : (linesTx (b.Lines.take k)).length ≤ 1048576 * 5003 := by
  have a := linesTx_len (ls := b.Lines.take k) fun x hx => block_line h (List.mem_of_mem_take hx)
  have c : (b.Lines.take k).length ≤ b.Lines.length := by rw [List.length_take]; exact Nat.min_le_right _ _
  have d := hb.Lines.1
  exact Nat.le_trans a (Nat.mul_le_mul_right _ (by omega))
theorem blockT_eq (b : SheetBlock) : blockT b = (b.Kind ++ [32] ++ b.Name ++ [10]) ++ linesTx b.Lines ++ [101, 110, 100, 10] := rfl
theorem blockT_len {b : SheetBlock} (h : blockR b = true) (hb : b.Ok) : (blockT b).length ≤ 5300000000 := by
  have a := linesTx_take h hb b.Lines.length
  rw [List.take_of_length_le (Nat.le_refl _)] at a
  have k := hb.Kind
  have n := hb.Name
  rw [blockT_eq]
  simp only [List.length_append, List.length_cons, List.length_nil]
  omega
theorem sheetT_len : ∀ {bs : List SheetBlock}, (∀ b ∈ bs, (blockT b).length ≤ 5300000000) → (sheetT bs).length ≤ bs.length * 5300000000
  | [], _ => by simp [sheetT]
  | x :: ls, h => by
    have i := sheetT_len (bs := ls) fun y hy => h y (by simp [hy])
    have a := h x (by simp)
    simp only [sheetT, List.flatMap_cons, List.length_append, List.length_cons] at *
    omega
theorem sheet_small {s : Sheet} (h : sheetR s = true) (hs : s.Ok) (k : Nat) : (sheetT (s.Blocks.take k)).length ≤ 318000000000 := by
  have h60 : s.Blocks.length ≤ 60 := by
    simp only [sheetR, Bool.and_eq_true, decide_eq_true_eq] at h; exact h.1
  have a := sheetT_len (bs := s.Blocks.take k) fun b hb => blockT_len (sheet_blocks h b (List.mem_of_mem_take hb)) (hs.Blocks.2 b (List.mem_of_mem_take hb))
  have c : (s.Blocks.take k).length ≤ s.Blocks.length := by rw [List.length_take]; exact Nat.min_le_right _ _
  omega
theorem linesN_small {s : Sheet} (h : sheetR s = true) (hs : s.Ok) (k : Nat) : linesN (s.Blocks.take k) ≤ 62914680 := by
  have h60 : s.Blocks.length ≤ 60 := by
    simp only [sheetR, Bool.and_eq_true, decide_eq_true_eq] at h; exact h.1
  have aux : ∀ bs : List SheetBlock, (∀ b ∈ bs, b.Lines.length ≤ 1048576) → linesN bs ≤ bs.length * 1048578 := by
    intro bs
    induction bs with
    | nil => intro _; simp [linesN]
    | cons b bs ih =>
      intro hb
      have i := ih fun y hy => hb y (by simp [hy])
      have a := hb b (by simp)
      simp only [linesN, List.map_cons, List.sum_cons, List.length_cons] at *
      omega
  have a := aux (s.Blocks.take k) fun b hb => (hs.Blocks.2 b (List.mem_of_mem_take hb)).Lines.1
  have c : (s.Blocks.take k).length ≤ s.Blocks.length := by rw [List.length_take]; exact Nat.min_le_right _ _
  omega
/-- What is printed. -/
def printR (s : Sheet) : List UInt8 := if sheetR s = true ∧ (sheetT s.Blocks).length ≤ 20000 ∧ linesN s.Blocks ≤ 400 then sheetT s.Blocks else []
theorem byteRows_len (s : List UInt8) : (byteRows s).length = s.length := by simp [byteRows]
theorem byteRows_app (a b : List UInt8) : byteRows a ++ byteRows b = byteRows (a ++ b) := by simp [byteRows]
end Go.Proofs.YtnnnemgbgilfaaaDoor.W

end
