/- A sheet's text, on both sides. Conditions: none. -/
import Derived.Test.YtnnnemgbgilfaaaDoorSheetPrQ
import Derived.Test.YtnnnemgbgilfaaaDoorSheetLong
import Derived.Test.YtnnnemgbgilfaaaDoorSheetValid
import Derived.Test.YtnnnemgbgilfaaaDoorSheetBld
set_option linter.unusedSimpArgs false
set_option linter.unusedVariables false
set_option linter.defProp false
open Go Go.Ab
set_option maxHeartbeats 2000000
namespace Go.Proofs.YtnnnemgbgilfaaaDoor.W
/-- A text in the making. -/
def txB (bs : List SheetBlock) (k : Nat) (b : SheetBlock) (j : Nat) : List UInt8 := sheetT (bs.take k) ++ (b.Kind ++ 32 :: (b.Name ++ [10])) ++ linesTx (b.Lines.take j)
theorem txB_zero (bs : List SheetBlock) (k : Nat) (b : SheetBlock) : sheetT (bs.take k) ++ (b.Kind ++ 32 :: (b.Name ++ [10])) = txB bs k b 0 := by simp [txB, linesTx]
theorem txB_step {bs : List SheetBlock} {k : Nat} {b : SheetBlock} {j : Nat} {x : SheetLine} (h : b.Lines[j]? = some x) : txB bs k b j ++ (32 :: 32 :: (lineT x ++ [10])) = txB bs k b (j + 1) := by
  rw [txB, txB, linesTx_step h]; simp only [List.append_assoc, List.cons_append, List.nil_append]
theorem txB_end {bs : List SheetBlock} {k : Nat} {b : SheetBlock} (h : bs[k]? = some b) : txB bs k b b.Lines.length ++ [101, 110, 100, 10] = sheetT (bs.take (k + 1)) := by
  rw [txB, sheetT_step h, blockT_eq, List.take_of_length_le (Nat.le_refl _)]; simp only [List.append_assoc, List.cons_append, List.nil_append]
theorem txB_len {s : Sheet} (h : sheetR s = true) (hs : s.Ok) {k : Nat} {b : SheetBlock} (hx : s.Blocks[k]? = some b) (j : Nat) : (txB s.Blocks k b j).length ≤ 330000000000 := by
  have e1 := sheet_small h hs k
  have hbo := hs.Blocks.2 b (mem_at hx)
  have e2 := hbo.Kind
  have e3 := hbo.Name
  have g2 := linesTx_take (sheet_blocks h b (mem_at hx)) hbo j
  simp only [txB, List.length_append, List.length_cons, List.length_nil] at *
  omega
def pO (n : Nat) (bs : List UInt8) : V := if bs = [] then .nilp else .bp n
theorem write_lit {σ : Store} {A : Ab.Obj} {τ : Store} {bs s : List UInt8} (hs : s ≠ []) (hl : bs.length + s.length ≤ 140737488355328) :
    ACalls Tryd.prog 52 [.bp (σ.length + 2), .t (.str s)] (σ ++ A :: .buf 5 bs :: .tbox TB [pO (σ.length + 2) bs, .bsl (σ.length + 1) bs.length] :: τ)
      fun rr σ' => rr = .tup [.t (.int .i64 (s.length : Nat)), .nili] ∧ σ' = σ ++ A :: .buf 5 (bs ++ s) :: .tbox TB [pO (σ.length + 2) (bs ++ s), .bsl (σ.length + 1) (bs ++ s).length] :: τ := by
  have h := strings_Write (σ := σ ++ A :: .buf 5 bs :: .tbox TB [pO (σ.length + 2) bs, .bsl (σ.length + 1) bs.length] :: τ) (id := σ.length + 2) (i := σ.length + 1) (bs := bs) (s := s) (p := pO (σ.length + 2) bs) (by simp) (by simp) (by unfold pO; split <;> simp) hs hl
  refine h.mono ?_
  rintro r σ' ⟨h1, h2⟩
  refine ⟨h1, ?_⟩
  rw [h2]
  have e : pO (σ.length + 2) (bs ++ s) = .bp (σ.length + 2) := by unfold pO; rw [if_neg (by simp [hs])]
  rw [e]
  simp [List.set_append]
theorem call_w {σ : Store} {A : Ab.Obj} {τ : Store} {bs s : List UInt8} {K : Tok → V → Store → Prop} (hs : s ≠ []) (hl : bs.length + s.length ≤ 140737488355328)
    (hk : K .go (.tup [.t (.int .i64 (s.length : Nat)), .nili]) (σ ++ A :: .buf 5 (bs ++ s) :: .tbox TB [pO (σ.length + 2) (bs ++ s), .bsl (σ.length + 1) (bs ++ s).length] :: τ)) :
    callV Tryd.prog (σ ++ A :: .buf 5 bs :: .tbox TB [pO (σ.length + 2) bs, .bsl (σ.length + 1) bs.length] :: τ) (some (.fn (.func 52) [])) (some [.bp (σ.length + 2), .t (.str s)]) K := by
  refine call_by (by rw [List.append_nil]; exact write_lit hs hl) ?_
  rintro r σ' ⟨rfl, rfl⟩
  exact hk
theorem str_lit {σ : Store} {A : Ab.Obj} {τ : Store} {bs : List UInt8} :
    ACalls Tryd.prog 55 [.bp (σ.length + 2)] (σ ++ A :: .buf 5 bs :: .tbox TB [pO (σ.length + 2) bs, .bsl (σ.length + 1) bs.length] :: τ)
      fun rr σ' => rr = .t (.str bs) ∧ σ' = σ ++ A :: .buf 5 bs :: .tbox TB [pO (σ.length + 2) bs, .bsl (σ.length + 1) bs.length] :: τ :=
  strings_Str (σ := σ ++ A :: .buf 5 bs :: .tbox TB [pO (σ.length + 2) bs, .bsl (σ.length + 1) bs.length] :: τ) (id := σ.length + 2) (i := σ.length + 1) (bs := bs) (p := pO (σ.length + 2) bs) (by simp) (by simp)

def c_impl_SheetPrint : C := (.seq (.ops [⟨(some 1), none, (.box (.t 0))⟩, ⟨(some 2), none, (.mv (.c (.t (.str []))))⟩]) (.seq (.seq (.ops [⟨(some 8), none, (.load (some 1) (.t 1))⟩, ⟨(some 9), none, (.call (.c (.fn (.func 12) [])) [(.t 8)])⟩, ⟨(some 10), none, (.un .not (.t 9))⟩]) (.cond (.t 10) (.seq (.ops [⟨(some 2), none, (.mv (.c (.t (.str []))))⟩]) .ret) .skip)) (.seq (.ops [⟨(some 3), none, (.newB 81 5)⟩]) (.seq (.seq (.ops [⟨(some 11), none, (.fieldAddr 0 (.t 1))⟩, ⟨(some 12), none, (.load none (.t 11))⟩, ⟨(some 13), none, (.len false (.t 12))⟩, ⟨(some 14), none, (.mv (.c (.t (.int .i64 0))))⟩]) (.block 0 (.loop (.seq (.ops [⟨(some 15), none, (.bin .lss (.t 14) (.t 13))⟩]) (.seq (.cond (.t 15) .skip (.exit 0)) (.seq (.block 1 (.seq (.ops [⟨(some 16), none, (.indexAddr 3 (.t 12) (.t 14))⟩, ⟨(some 17), none, (.load (some 3) (.t 16))⟩, ⟨(some 5), none, (.new [(.t (.str [])), (.t (.str [])), .nils])⟩, ⟨none, none, (.store 3 (.t 5) (.t 17))⟩]) (.seq (.ops [⟨(some 18), none, (.fieldAddr 0 (.t 5))⟩, ⟨(some 19), none, (.load none (.t 18))⟩, ⟨(some 20), none, (.bin .add (.t 19) (.c (.t (.str [32]))))⟩, ⟨(some 21), none, (.fieldAddr 1 (.t 5))⟩, ⟨(some 22), none, (.load none (.t 21))⟩, ⟨(some 23), none, (.bin .add (.t 20) (.t 22))⟩, ⟨(some 24), none, (.bin .add (.t 23) (.c (.t (.str [10]))))⟩, ⟨(some 25), none, (.call (.c (.fn (.func 52) [])) [(.t 3), (.t 24)])⟩]) (.seq (.seq (.ops [⟨(some 26), none, (.fieldAddr 2 (.t 5))⟩, ⟨(some 27), none, (.load none (.t 26))⟩, ⟨(some 28), none, (.len false (.t 27))⟩, ⟨(some 29), none, (.mv (.c (.t (.int .i64 0))))⟩]) (.block 2 (.loop (.seq (.ops [⟨(some 30), none, (.bin .lss (.t 29) (.t 28))⟩]) (.seq (.cond (.t 30) .skip (.exit 2)) (.seq (.block 3 (.seq (.ops [⟨(some 31), none, (.indexAddr 2 (.t 27) (.t 29))⟩, ⟨(some 32), none, (.load (some 2) (.t 31))⟩, ⟨(some 7), none, (.new [(.t (.str [])), .nils])⟩, ⟨none, none, (.store 2 (.t 7) (.t 32))⟩]) (.ops [⟨(some 33), none, (.load (some 2) (.t 7))⟩, ⟨(some 34), none, (.call (.c (.fn (.func 53) [])) [(.t 33)])⟩, ⟨(some 35), none, (.bin .add (.c (.t (.str [32, 32]))) (.t 34))⟩, ⟨(some 36), none, (.bin .add (.t 35) (.c (.t (.str [10]))))⟩, ⟨(some 37), none, (.call (.c (.fn (.func 52) [])) [(.t 3), (.t 36)])⟩]))) (.ops [⟨(some 38), none, (.bin .add (.t 29) (.c (.t (.int .i64 1))))⟩, ⟨(some 29), none, (.mv (.t 38))⟩]))))))) (.ops [⟨(some 39), none, (.call (.c (.fn (.func 52) [])) [(.t 3), (.c (.t (.str [101, 110, 100, 10])))])⟩]))))) (.ops [⟨(some 40), none, (.bin .add (.t 14) (.c (.t (.int .i64 1))))⟩, ⟨(some 14), none, (.mv (.t 40))⟩]))))))) (.seq (.seq (.ops [⟨(some 41), none, (.call (.c (.fn (.func 55) [])) [(.t 3)])⟩, ⟨(some 42), none, (.call (.c (.fn (.func 54) [])) [(.t 41)])⟩]) (.cond (.t 42) (.seq (.ops [⟨(some 2), none, (.mv (.c (.t (.str []))))⟩]) .ret) .skip)) (.seq (.ops [⟨(some 43), none, (.call (.c (.fn (.func 55) [])) [(.t 3)])⟩, ⟨(some 2), none, (.mv (.t 43))⟩]) .ret))))))
theorem k_impl_SheetPrint : comp Tryd.prog 44 (Tryd.f21.body.getD .skip) = some c_impl_SheetPrint := by kernel_rfl

theorem impl_SheetPrint (s : Sheet) (hs : s.Ok)  (σ : Store) : ACalls Tryd.prog 21 [.agg (s.vs)] σ fun rr σ' => rr = .t (.str (printR s)) ∧ σ' = σ := by
  refine acalls_of Tryd.func21 (by decide +kernel) (code := Tryd.f21.body.getD .skip) (n := 44) (c := c_impl_SheetPrint) (rs := [(.tmp 2)]) rfl rfl k_impl_SheetPrint (by kernel_rfl) (by simp) (fun hσ => ?_)
  have hh : True := trivial
  have fin : ∀ {u : V} {τ : Store}, u = .t (.str (printR s)) → u.lt σ.length = true → retV σ.length (fun rr σ' => rr = .t (.str (printR s)) ∧ σ' = σ) (σ ++ τ) (some [u]) := fun h h2 => ret_same rfl hσ h2 ⟨h, rfl⟩
  have fin0 : ∀ {u : V}, u = .t (.str (printR s)) → retV σ.length (fun rr σ' => rr = .t (.str (printR s)) ∧ σ' = σ) σ (some [u]) := fun h => ret_same0 rfl ⟨h, rfl⟩
  have hb := hs.Blocks
  simp -implicitDefEqProofs only [c_impl_SheetPrint, Sheet.vs, S0, S1, S2, S3, S4, S5, S6, S7, S8, S9, S10, S11, S12, S13, S14, S15, S16, S17, opv, opvs, eget, env0, setD, lenStr, lenSl, isNilP, isNilS, putAt, if_true, if_false, reduceCtorEq, Nat.reduceLeDiff, Nat.reduceEqDiff, Nat.reduceSub, Nat.reduceMul, Nat.reduceAdd]
  refine call_pure (impl_SheetValid s hs _) ?_
  simp -implicitDefEqProofs only [S0, S1, S2, S3, S4, S5, S6, S7, S8, S9, S10, S11, S12, S13, S14, S15, S16, S17, opv, opvs, eget, env0, setD, lenStr, lenSl, isNilP, isNilS, putAt, if_true, if_false, reduceCtorEq, Nat.reduceLeDiff, Nat.reduceEqDiff, Nat.reduceSub, Nat.reduceMul, Nat.reduceAdd]
  rcases hv : sheetR s with _ | _
  · simp -implicitDefEqProofs only [hv, cond_t, cond_f, Bool.not_true, Bool.not_false, S0, S1, S2, S3, S4, S5, S6, S7, S8, S9, S10, S11, S12, S13, S14, S15, S16, S17, opv, opvs, eget, env0, setD, lenStr, lenSl, isNilP, isNilS, putAt, if_true, if_false, reduceCtorEq, Nat.reduceLeDiff, Nat.reduceEqDiff, Nat.reduceSub, Nat.reduceMul, Nat.reduceAdd]
    have e : printR s = [] := by rw [printR, hv]; simp
    first | exact fin0 (by rw [e]) | exact fin (by rw [e]) rfl
  · simp -implicitDefEqProofs only [hv, cond_t, cond_f, Bool.not_true, Bool.not_false, List.length_map, S0, S1, S2, S3, S4, S5, S6, S7, S8, S9, S10, S11, S12, S13, S14, S15, S16, S17, opv, opvs, eget, env0, setD, lenStr, lenSl, isNilP, isNilS, putAt, if_true, if_false, reduceCtorEq, Nat.reduceLeDiff, Nat.reduceEqDiff, Nat.reduceSub, Nat.reduceMul, Nat.reduceAdd]
    have h60 : s.Blocks.length ≤ 60 := by
      simp only [sheetR, Bool.and_eq_true, decide_eq_true_eq] at hv; exact hv.1
    refine loop_s [14, 3, 12, 13] [3, 12, 13] (fun k : Nat => [(14, .t (.int .i64 (k : Nat)))]) (fun k => σ ++ [.box [.t (.lst 3 (s.Blocks.map SheetBlock.ts))], .buf 5 (sheetT (s.Blocks.take k)), .tbox 81 [pO (σ.length + 2) (sheetT (s.Blocks.take k)), .bsl (σ.length + 1) (sheetT (s.Blocks.take k)).length]]) (fun k => k ≤ s.Blocks.length) (fun k => s.Blocks.length - k) 0 (σ.length + 3) (fun _ => by simp) (by omega) (Nat.zero_le _) (by simp [pO, sheetT]) rfl ?_
    rintro k hkl
    simp -implicitDefEqProofs only [keep, List.length_map, S0, S1, S2, S3, S4, S5, S6, S7, S8, S9, S10, S11, S12, S13, S14, S15, S16, S17, opv, opvs, eget, env0, setD, lenStr, lenSl, isNilP, isNilS, putAt, if_true, if_false, reduceCtorEq, Nat.reduceLeDiff, Nat.reduceEqDiff, Nat.reduceSub, Nat.reduceMul, Nat.reduceAdd]
    refine cond_split (fun h1 => ?_) (fun h1 => ?_)
    · obtain ⟨b, hx, hlt⟩ := at_of h1
      have more := i64_succ (show k < 4611686018427387904 by omega)
      have hbo := hb.2 b (mem_at hx)
      have hbr := sheet_blocks hv b (mem_at hx)
      have e1 := sheet_small hv hs k
      have e2 := hbo.Kind
      have e3 := hbo.Name
      have e4 := hbo.Lines.1
      simp -implicitDefEqProofs only [hx, more, SheetBlock.ts, nat_nn, Nat.zero_le, List.getElem?_map, Option.map_some, List.length_map, S0, S1, S2, S3, S4, S5, S6, S7, S8, S9, S10, S11, S12, S13, S14, S15, S16, S17, opv, opvs, eget, env0, setD, lenStr, lenSl, isNilP, isNilS, putAt, if_true, if_false, reduceCtorEq, Nat.reduceLeDiff, Nat.reduceEqDiff, Nat.reduceSub, Nat.reduceMul, Nat.reduceAdd]
      repeat' (first | (refine ⟨by (try simp only [List.length_append, List.length_cons, List.length_nil] at *); omega, ?_⟩; (try simp -implicitDefEqProofs only [hx, more, nat_nn, Nat.zero_le, List.getElem?_map, Option.map_some, List.length_map, S0, S1, S2, S3, S4, S5, S6, S7, S8, S9, S10, S11, S12, S13, S14, S15, S16, S17, opv, opvs, eget, env0, setD, lenStr, lenSl, isNilP, isNilS, putAt, if_true, if_false, reduceCtorEq, Nat.reduceLeDiff, Nat.reduceEqDiff, Nat.reduceSub, Nat.reduceMul, Nat.reduceAdd])) | fail)
      refine call_w (bs := sheetT (s.Blocks.take k)) (s := b.Kind ++ 32 :: (b.Name ++ [10])) (by simp) (by (try simp only [List.length_append, List.length_cons, List.length_nil] at *); omega) ?_
      rw [txB_zero]
      simp -implicitDefEqProofs only [hx, more, nat_nn, Nat.zero_le, List.getElem?_map, Option.map_some, List.length_map, S0, S1, S2, S3, S4, S5, S6, S7, S8, S9, S10, S11, S12, S13, S14, S15, S16, S17, opv, opvs, eget, env0, setD, lenStr, lenSl, isNilP, isNilS, putAt, if_true, if_false, reduceCtorEq, Nat.reduceLeDiff, Nat.reduceEqDiff, Nat.reduceSub, Nat.reduceMul, Nat.reduceAdd]
      refine loop_s [29, 3, 12, 13, 14, 27, 28] [3, 12, 13, 14, 27, 28] (fun j : Nat => [(29, .t (.int .i64 (j : Nat)))]) (fun j => σ ++ [.box [.t (.lst 3 (s.Blocks.map SheetBlock.ts))], .buf 5 (txB s.Blocks k b j), .tbox 81 [pO (σ.length + 2) (txB s.Blocks k b j), .bsl (σ.length + 1) (txB s.Blocks k b j).length], .box [.t (.str b.Kind), .t (.str b.Name), .t (.lst 2 (b.Lines.map SheetLine.ts))]]) (fun j => j ≤ b.Lines.length) (fun j => b.Lines.length - j) 0 (σ.length + 4) (fun _ => by simp) (by omega) (Nat.zero_le _) rfl rfl ?_
      rintro j hjl
      simp -implicitDefEqProofs only [keep, List.length_map, S0, S1, S2, S3, S4, S5, S6, S7, S8, S9, S10, S11, S12, S13, S14, S15, S16, S17, opv, opvs, eget, env0, setD, lenStr, lenSl, isNilP, isNilS, putAt, if_true, if_false, reduceCtorEq, Nat.reduceLeDiff, Nat.reduceEqDiff, Nat.reduceSub, Nat.reduceMul, Nat.reduceAdd]
      refine cond_split (fun h2 => ?_) (fun h2 => ?_)
      · obtain ⟨x, hy, hjt⟩ := at_of h2
        have mor2 := i64_succ (show j < 4611686018427387904 by omega)
        have hxo := hbo.Lines.2 x (mem_at hy)
        have g1 := block_line hbr (mem_at hy)
        have g3 := txB_len hv hs hx j
        simp -implicitDefEqProofs only [hy, mor2, SheetLine.ts, nat_nn, Nat.zero_le, List.getElem?_map, Option.map_some, List.length_map, S0, S1, S2, S3, S4, S5, S6, S7, S8, S9, S10, S11, S12, S13, S14, S15, S16, S17, opv, opvs, eget, env0, setD, lenStr, lenSl, isNilP, isNilS, putAt, if_true, if_false, reduceCtorEq, Nat.reduceLeDiff, Nat.reduceEqDiff, Nat.reduceSub, Nat.reduceMul, Nat.reduceAdd]
        have hcall := impl_form x hxo
        simp only [SheetLine.vs] at hcall
        refine call_pure (hcall _) ?_
        simp -implicitDefEqProofs only [hy, mor2, nat_nn, Nat.zero_le, List.getElem?_map, Option.map_some, List.length_map, S0, S1, S2, S3, S4, S5, S6, S7, S8, S9, S10, S11, S12, S13, S14, S15, S16, S17, opv, opvs, eget, env0, setD, lenStr, lenSl, isNilP, isNilS, putAt, if_true, if_false, reduceCtorEq, Nat.reduceLeDiff, Nat.reduceEqDiff, Nat.reduceSub, Nat.reduceMul, Nat.reduceAdd]
        have g4 : (32 :: 32 :: (lineT x ++ [10])).length ≤ 5003 := by (try simp only [List.length_append, List.length_cons, List.length_nil] at *); omega
        repeat' (first | (refine ⟨by (try simp only [List.length_append, List.length_cons, List.length_nil] at *); omega, ?_⟩; (try simp -implicitDefEqProofs only [hy, mor2, nat_nn, Nat.zero_le, List.getElem?_map, Option.map_some, List.length_map, S0, S1, S2, S3, S4, S5, S6, S7, S8, S9, S10, S11, S12, S13, S14, S15, S16, S17, opv, opvs, eget, env0, setD, lenStr, lenSl, isNilP, isNilS, putAt, if_true, if_false, reduceCtorEq, Nat.reduceLeDiff, Nat.reduceEqDiff, Nat.reduceSub, Nat.reduceMul, Nat.reduceAdd])) | fail)
        refine call_w (bs := txB s.Blocks k b j) (s := 32 :: 32 :: (lineT x ++ [10])) (by simp) (by omega) ?_
        rw [txB_step hy]
        simp -implicitDefEqProofs only [hy, mor2, nat_nn, Nat.zero_le, List.getElem?_map, Option.map_some, List.length_map, S0, S1, S2, S3, S4, S5, S6, S7, S8, S9, S10, S11, S12, S13, S14, S15, S16, S17, opv, opvs, eget, env0, setD, lenStr, lenSl, isNilP, isNilS, putAt, if_true, if_false, reduceCtorEq, Nat.reduceLeDiff, Nat.reduceEqDiff, Nat.reduceSub, Nat.reduceMul, Nat.reduceAdd]
        first
          | exact lk_s0 (j + 1) (by simp) (by omega) rfl (by omega) (by omega) (by simp [keep, eget])
          | exact lk_s (j + 1) (by simp) (by omega) (by rw [List.append_assoc]; rfl) (by omega) (by omega) (by rw [q_ltσ_app, ltσ_mono (by omega) hσ]; simp [ltσ, Ab.Obj.lt, V.lts, V.lt, pO]; split <;> simp [V.lt]) (by simp [ltE, keep, eget, V.lt]) (by simp [keep, eget])
      · have hkk := end_of h2 hjl
        subst hkk
        have g3 := txB_len hv hs hx b.Lines.length
        simp -implicitDefEqProofs only [keep, nat_nn, Nat.zero_le, List.getElem?_map, Option.map_some, List.length_map, S0, S1, S2, S3, S4, S5, S6, S7, S8, S9, S10, S11, S12, S13, S14, S15, S16, S17, opv, opvs, eget, env0, setD, lenStr, lenSl, isNilP, isNilS, putAt, if_true, if_false, reduceCtorEq, Nat.reduceLeDiff, Nat.reduceEqDiff, Nat.reduceSub, Nat.reduceMul, Nat.reduceAdd]
        refine call_w (bs := txB s.Blocks k b b.Lines.length) (s := [101, 110, 100, 10]) (by simp) (by simp only [List.length_cons, List.length_nil]; omega) ?_
        rw [txB_end hx]
        simp -implicitDefEqProofs only [hx, more, nat_nn, Nat.zero_le, List.getElem?_map, Option.map_some, List.length_map, S0, S1, S2, S3, S4, S5, S6, S7, S8, S9, S10, S11, S12, S13, S14, S15, S16, S17, opv, opvs, eget, env0, setD, lenStr, lenSl, isNilP, isNilS, putAt, if_true, if_false, reduceCtorEq, Nat.reduceLeDiff, Nat.reduceEqDiff, Nat.reduceSub, Nat.reduceMul, Nat.reduceAdd]
        first
          | exact lk_s0 (k + 1) (by simp) (by omega) rfl (by omega) (by omega) (by simp [keep, eget])
          | exact lk_s (k + 1) (by simp) (by omega) (by rw [List.append_assoc]; rfl) (by omega) (by omega) (by rw [q_ltσ_app, ltσ_mono (by omega) hσ]; simp [ltσ, Ab.Obj.lt, V.lts, V.lt, pO]; split <;> simp [V.lt]) (by simp [ltE, keep, eget, V.lt]) (by simp [keep, eget])
    · have hkk := end_of h1 hkl
      subst hkk
      have hall : s.Blocks.take s.Blocks.length = s.Blocks := List.take_of_length_le (Nat.le_refl _)
      have e1 := sheet_small hv hs s.Blocks.length
      rw [hall] at e1
      simp -implicitDefEqProofs only [keep, nat_nn, Nat.zero_le, List.getElem?_map, Option.map_some, List.length_map, S0, S1, S2, S3, S4, S5, S6, S7, S8, S9, S10, S11, S12, S13, S14, S15, S16, S17, opv, opvs, eget, env0, setD, lenStr, lenSl, isNilP, isNilS, putAt, if_true, if_false, reduceCtorEq, Nat.reduceLeDiff, Nat.reduceEqDiff, Nat.reduceSub, Nat.reduceMul, Nat.reduceAdd]
      rw [hall]
      refine call_by (by rw [List.append_nil]; exact str_lit) ?_
      rintro _ _ ⟨rfl, rfl⟩
      simp -implicitDefEqProofs only [nat_nn, Nat.zero_le, List.getElem?_map, Option.map_some, List.length_map, S0, S1, S2, S3, S4, S5, S6, S7, S8, S9, S10, S11, S12, S13, S14, S15, S16, S17, opv, opvs, eget, env0, setD, lenStr, lenSl, isNilP, isNilS, putAt, if_true, if_false, reduceCtorEq, Nat.reduceLeDiff, Nat.reduceEqDiff, Nat.reduceSub, Nat.reduceMul, Nat.reduceAdd]
      refine call_pure (impl_long _ (by omega) _) ?_
      simp -implicitDefEqProofs only [nat_nn, Nat.zero_le, List.getElem?_map, Option.map_some, List.length_map, S0, S1, S2, S3, S4, S5, S6, S7, S8, S9, S10, S11, S12, S13, S14, S15, S16, S17, opv, opvs, eget, env0, setD, lenStr, lenSl, isNilP, isNilS, putAt, if_true, if_false, reduceCtorEq, Nat.reduceLeDiff, Nat.reduceEqDiff, Nat.reduceSub, Nat.reduceMul, Nat.reduceAdd]
      rw [sheet_lines hv]
      refine cond_split (fun h3 => ?_) (fun h3 => ?_)
      · have e : printR s = [] := by
          simp only [Bool.or_eq_true, decide_eq_true_eq] at h3
          rw [printR, if_neg]; omega
        simp -implicitDefEqProofs only [nat_nn, Nat.zero_le, List.getElem?_map, Option.map_some, List.length_map, S0, S1, S2, S3, S4, S5, S6, S7, S8, S9, S10, S11, S12, S13, S14, S15, S16, S17, opv, opvs, eget, env0, setD, lenStr, lenSl, isNilP, isNilS, putAt, if_true, if_false, reduceCtorEq, Nat.reduceLeDiff, Nat.reduceEqDiff, Nat.reduceSub, Nat.reduceMul, Nat.reduceAdd]
        first | exact fin0 (by rw [e]) | exact fin (by rw [e]) rfl
      · have e : printR s = sheetT s.Blocks := by
          simp only [Bool.or_eq_false_iff, decide_eq_false_iff_not] at h3
          rw [printR, if_pos]; exact ⟨hv, by omega, by omega⟩
        simp -implicitDefEqProofs only [nat_nn, Nat.zero_le, List.getElem?_map, Option.map_some, List.length_map, S0, S1, S2, S3, S4, S5, S6, S7, S8, S9, S10, S11, S12, S13, S14, S15, S16, S17, opv, opvs, eget, env0, setD, lenStr, lenSl, isNilP, isNilS, putAt, if_true, if_false, reduceCtorEq, Nat.reduceLeDiff, Nat.reduceEqDiff, Nat.reduceSub, Nat.reduceMul, Nat.reduceAdd]
        refine call_by (by rw [List.append_nil]; exact str_lit) ?_
        rintro _ _ ⟨rfl, rfl⟩
        simp -implicitDefEqProofs only [nat_nn, Nat.zero_le, List.getElem?_map, Option.map_some, List.length_map, S0, S1, S2, S3, S4, S5, S6, S7, S8, S9, S10, S11, S12, S13, S14, S15, S16, S17, opv, opvs, eget, env0, setD, lenStr, lenSl, isNilP, isNilS, putAt, if_true, if_false, reduceCtorEq, Nat.reduceLeDiff, Nat.reduceEqDiff, Nat.reduceSub, Nat.reduceMul, Nat.reduceAdd]
        first | exact fin0 (by rw [e]) | exact fin (by rw [e]) rfl

def c_spec_SheetPrint : C := (.seq (.ops [⟨(some 1), none, (.box (.t 0))⟩, ⟨(some 2), none, (.mv (.c (.t (.str []))))⟩]) (.seq (.seq (.ops [⟨(some 8), none, (.load (some 1) (.t 1))⟩, ⟨(some 9), none, (.call (.c (.fn (.func 11) [])) [(.t 8)])⟩, ⟨(some 10), none, (.un .not (.t 9))⟩]) (.cond (.t 10) (.seq (.ops [⟨(some 2), none, (.mv (.c (.t (.str []))))⟩]) .ret) .skip)) (.seq (.ops [⟨(some 11), none, (.lit none 1 0 [(.t (.int .u8 0))] [])⟩, ⟨(some 3), none, (.mv (.t 11))⟩]) (.seq (.ops [⟨(some 4), none, (.mv (.c (.t (.int .i64 0))))⟩]) (.seq (.seq (.ops [⟨(some 5), none, (.mv (.c (.t (.int .i64 0))))⟩]) (.block 0 (.loop (.seq (.seq (.ops [⟨(some 12), none, (.mv (.t 5))⟩, ⟨(some 13), none, (.fieldAddr 0 (.t 1))⟩, ⟨(some 14), none, (.load none (.t 13))⟩, ⟨(some 15), none, (.len false (.t 14))⟩, ⟨(some 16), none, (.bin .lss (.t 12) (.t 15))⟩]) (.cond (.t 16) .skip (.exit 0))) (.seq (.block 1 (.seq (.ops [⟨(some 19), none, (.fieldAddr 0 (.t 1))⟩, ⟨(some 20), none, (.load none (.t 19))⟩, ⟨(some 21), none, (.mv (.t 5))⟩, ⟨(some 22), none, (.indexAddr 3 (.t 20) (.t 21))⟩, ⟨(some 23), none, (.load (some 3) (.t 22))⟩, ⟨(some 6), none, (.new [(.t (.str [])), (.t (.str [])), .nils])⟩, ⟨none, none, (.store 3 (.t 6) (.t 23))⟩]) (.seq (.ops [⟨(some 24), none, (.mv (.t 3))⟩, ⟨(some 25), none, (.fieldAddr 0 (.t 6))⟩, ⟨(some 26), none, (.load none (.t 25))⟩, ⟨(some 27), none, (.bin .add (.t 26) (.c (.t (.str [32]))))⟩, ⟨(some 28), none, (.fieldAddr 1 (.t 6))⟩, ⟨(some 29), none, (.load none (.t 28))⟩, ⟨(some 30), none, (.bin .add (.t 27) (.t 29))⟩, ⟨(some 31), none, (.bin .add (.t 30) (.c (.t (.str [10]))))⟩, ⟨(some 32), none, (.appS 1 (.t 24) (.t 31))⟩, ⟨(some 3), none, (.mv (.t 32))⟩]) (.seq (.seq (.ops [⟨(some 7), none, (.mv (.c (.t (.int .i64 0))))⟩]) (.block 2 (.loop (.seq (.seq (.ops [⟨(some 33), none, (.mv (.t 7))⟩, ⟨(some 34), none, (.fieldAddr 2 (.t 6))⟩, ⟨(some 35), none, (.load none (.t 34))⟩, ⟨(some 36), none, (.len false (.t 35))⟩, ⟨(some 37), none, (.bin .lss (.t 33) (.t 36))⟩]) (.cond (.t 37) .skip (.exit 2))) (.seq (.block 3 (.ops [⟨(some 40), none, (.mv (.t 3))⟩, ⟨(some 41), none, (.fieldAddr 2 (.t 6))⟩, ⟨(some 42), none, (.load none (.t 41))⟩, ⟨(some 43), none, (.mv (.t 7))⟩, ⟨(some 44), none, (.indexAddr 2 (.t 42) (.t 43))⟩, ⟨(some 45), none, (.load (some 2) (.t 44))⟩, ⟨(some 46), none, (.call (.c (.fn (.func 50) [])) [(.t 45)])⟩, ⟨(some 47), none, (.bin .add (.c (.t (.str [32, 32]))) (.t 46))⟩, ⟨(some 48), none, (.bin .add (.t 47) (.c (.t (.str [10]))))⟩, ⟨(some 49), none, (.appS 1 (.t 40) (.t 48))⟩, ⟨(some 3), none, (.mv (.t 49))⟩])) (.ops [⟨(some 38), none, (.mv (.t 7))⟩, ⟨(some 39), none, (.bin .add (.t 38) (.c (.t (.int .i64 1))))⟩, ⟨(some 7), none, (.mv (.t 39))⟩])))))) (.seq (.ops [⟨(some 50), none, (.mv (.t 3))⟩, ⟨(some 51), none, (.appS 1 (.t 50) (.c (.t (.str [101, 110, 100, 10]))))⟩, ⟨(some 3), none, (.mv (.t 51))⟩]) (.ops [⟨(some 52), none, (.mv (.t 4))⟩, ⟨(some 53), none, (.fieldAddr 2 (.t 6))⟩, ⟨(some 54), none, (.load none (.t 53))⟩, ⟨(some 55), none, (.len false (.t 54))⟩, ⟨(some 56), none, (.bin .add (.t 52) (.t 55))⟩, ⟨(some 57), none, (.bin .add (.t 56) (.c (.t (.int .i64 2))))⟩, ⟨(some 4), none, (.mv (.t 57))⟩])))))) (.ops [⟨(some 17), none, (.mv (.t 5))⟩, ⟨(some 18), none, (.bin .add (.t 17) (.c (.t (.int .i64 1))))⟩, ⟨(some 5), none, (.mv (.t 18))⟩])))))) (.seq (.seq (.ops [⟨(some 58), none, (.mv (.t 3))⟩, ⟨(some 59), none, (.len false (.t 58))⟩, ⟨(some 60), none, (.bin .gtr (.t 59) (.c (.t (.int .i64 20000))))⟩, ⟨(some 61), none, (.mv (.t 60))⟩, ⟨(some 62), (some ⟨61, false⟩), (.mv (.t 4))⟩, ⟨(some 63), (some ⟨61, false⟩), (.bin .gtr (.t 62) (.c (.t (.int .i64 400))))⟩, ⟨(some 64), none, (.pick (.t 61) (.c (.t (.bool true))) (.t 63))⟩]) (.cond (.t 64) (.seq (.ops [⟨(some 2), none, (.mv (.c (.t (.str []))))⟩]) .ret) .skip)) (.seq (.ops [⟨(some 65), none, (.mv (.t 3))⟩, ⟨(some 66), none, (.bytesStr (.t 65))⟩, ⟨(some 2), none, (.mv (.t 66))⟩]) .ret)))))))
theorem k_spec_SheetPrint : comp Tryd.prog 67 (Tryd.f19.body.getD .skip) = some c_spec_SheetPrint := by kernel_rfl

theorem spec_SheetPrint (s : Sheet) (hs : s.Ok)  (σ : Store) : ACalls Tryd.prog 19 [.agg (s.vs)] σ fun rr σ' => rr = .t (.str (printR s)) ∧ σ' = σ := by
  refine acalls_of Tryd.func19 (by decide +kernel) (code := Tryd.f19.body.getD .skip) (n := 67) (c := c_spec_SheetPrint) (rs := [(.tmp 2)]) rfl rfl k_spec_SheetPrint (by kernel_rfl) (by simp) (fun hσ => ?_)
  have hh : True := trivial
  have fin : ∀ {u : V} {τ : Store}, u = .t (.str (printR s)) → u.lt σ.length = true → retV σ.length (fun rr σ' => rr = .t (.str (printR s)) ∧ σ' = σ) (σ ++ τ) (some [u]) := fun h h2 => ret_same rfl hσ h2 ⟨h, rfl⟩
  have fin0 : ∀ {u : V}, u = .t (.str (printR s)) → retV σ.length (fun rr σ' => rr = .t (.str (printR s)) ∧ σ' = σ) σ (some [u]) := fun h => ret_same0 rfl ⟨h, rfl⟩
  have hb := hs.Blocks
  simp -implicitDefEqProofs only [c_spec_SheetPrint, Sheet.vs, S0, S1, S2, S3, S4, S5, S6, S7, S8, S9, S10, S11, S12, S13, S14, S15, S16, S17, opv, opvs, eget, env0, setD, lenStr, lenSl, isNilP, isNilS, putAt, if_true, if_false, reduceCtorEq, Nat.reduceLeDiff, Nat.reduceEqDiff, Nat.reduceSub, Nat.reduceMul, Nat.reduceAdd]
  refine call_pure (spec_SheetValid s hs _) ?_
  simp -implicitDefEqProofs only [S0, S1, S2, S3, S4, S5, S6, S7, S8, S9, S10, S11, S12, S13, S14, S15, S16, S17, opv, opvs, eget, env0, setD, lenStr, lenSl, isNilP, isNilS, putAt, if_true, if_false, reduceCtorEq, Nat.reduceLeDiff, Nat.reduceEqDiff, Nat.reduceSub, Nat.reduceMul, Nat.reduceAdd]
  rcases hv : sheetR s with _ | _
  · simp -implicitDefEqProofs only [hv, cond_t, cond_f, Bool.not_true, Bool.not_false, S0, S1, S2, S3, S4, S5, S6, S7, S8, S9, S10, S11, S12, S13, S14, S15, S16, S17, opv, opvs, eget, env0, setD, lenStr, lenSl, isNilP, isNilS, putAt, if_true, if_false, reduceCtorEq, Nat.reduceLeDiff, Nat.reduceEqDiff, Nat.reduceSub, Nat.reduceMul, Nat.reduceAdd]
    have e : printR s = [] := by rw [printR, hv]; simp
    first | exact fin0 (by rw [e]) | exact fin (by rw [e]) rfl
  · simp -implicitDefEqProofs only [hv, cond_t, cond_f, Bool.not_true, Bool.not_false, List.length_map, S0, S1, S2, S3, S4, S5, S6, S7, S8, S9, S10, S11, S12, S13, S14, S15, S16, S17, opv, opvs, eget, env0, setD, lenStr, lenSl, isNilP, isNilS, putAt, if_true, if_false, reduceCtorEq, Nat.reduceLeDiff, Nat.reduceEqDiff, Nat.reduceSub, Nat.reduceMul, Nat.reduceAdd]
    have h60 : s.Blocks.length ≤ 60 := by
      simp only [sheetR, Bool.and_eq_true, decide_eq_true_eq] at hv; exact hv.1
    refine lit_own ?_
    simp -implicitDefEqProofs only [List.length_map, S0, S1, S2, S3, S4, S5, S6, S7, S8, S9, S10, S11, S12, S13, S14, S15, S16, S17, opv, opvs, eget, env0, setD, lenStr, lenSl, isNilP, isNilS, putAt, if_true, if_false, reduceCtorEq, Nat.reduceLeDiff, Nat.reduceEqDiff, Nat.reduceSub, Nat.reduceMul, Nat.reduceAdd]
    refine loop_s [3, 4, 5, 1] [1] (fun k : Nat => [(3, .sl (σ.length + 1) (sheetT (s.Blocks.take k)).length 0 (sheetT (s.Blocks.take k)).length), (4, .t (.int .i64 (linesN (s.Blocks.take k) : Nat))), (5, .t (.int .i64 (k : Nat)))]) (fun k => σ ++ [.box [.t (.lst 3 (s.Blocks.map SheetBlock.ts))], .slc 1 (byteRows (sheetT (s.Blocks.take k)))]) (fun k => k ≤ s.Blocks.length) (fun k => s.Blocks.length - k) 0 (σ.length + 2) (fun _ => by simp) (by omega) (Nat.zero_le _) rfl rfl ?_
    rintro k hkl
    simp -implicitDefEqProofs only [keep, List.length_map, S0, S1, S2, S3, S4, S5, S6, S7, S8, S9, S10, S11, S12, S13, S14, S15, S16, S17, opv, opvs, eget, env0, setD, lenStr, lenSl, isNilP, isNilS, putAt, if_true, if_false, reduceCtorEq, Nat.reduceLeDiff, Nat.reduceEqDiff, Nat.reduceSub, Nat.reduceMul, Nat.reduceAdd]
    refine cond_split (fun h1 => ?_) (fun h1 => ?_)
    · obtain ⟨b, hx, hlt⟩ := at_of h1
      have more := i64_succ (show k < 4611686018427387904 by omega)
      have hbo := hb.2 b (mem_at hx)
      have hbr := sheet_blocks hv b (mem_at hx)
      have e1 := sheet_small hv hs k
      have e2 := hbo.Kind
      have e3 := hbo.Name
      have e4 := hbo.Lines.1
      simp -implicitDefEqProofs only [hx, more, SheetBlock.ts, byteRows_len, byteRows_app, Nat.mul_one, nat_nn, Nat.zero_le, List.getElem?_map, Option.map_some, List.length_map, S0, S1, S2, S3, S4, S5, S6, S7, S8, S9, S10, S11, S12, S13, S14, S15, S16, S17, opv, opvs, eget, env0, setD, lenStr, lenSl, isNilP, isNilS, putAt, if_true, if_false, reduceCtorEq, Nat.reduceLeDiff, Nat.reduceEqDiff, Nat.reduceSub, Nat.reduceMul, Nat.reduceAdd]
      repeat' (first | (refine ⟨by (try simp only [List.length_append, List.length_cons, List.length_nil] at *); (try simp only [maxBy]); omega, ?_⟩; (try simp -implicitDefEqProofs only [hx, more, byteRows_len, byteRows_app, Nat.mul_one, nat_nn, Nat.zero_le, List.getElem?_map, Option.map_some, List.length_map, S0, S1, S2, S3, S4, S5, S6, S7, S8, S9, S10, S11, S12, S13, S14, S15, S16, S17, opv, opvs, eget, env0, setD, lenStr, lenSl, isNilP, isNilS, putAt, if_true, if_false, reduceCtorEq, Nat.reduceLeDiff, Nat.reduceEqDiff, Nat.reduceSub, Nat.reduceMul, Nat.reduceAdd])) | fail)
      have l0 : (sheetT (s.Blocks.take k)).length + (b.Kind.length + (b.Name.length + 2)) = (txB s.Blocks k b 0).length := by rw [← txB_zero]; simp only [List.length_append, List.length_cons, List.length_nil]
      rw [l0, txB_zero]
      have m1 : IntKind.i64.wrap ((linesN (s.Blocks.take k) : Int) + (b.Lines.length : Int)) = ((linesN (s.Blocks.take k) + b.Lines.length : Nat) : Int) := by
        have := linesN_small hv hs k
        rw [IntWalk.i64_in _ (by omega)]; omega
      have m2 : IntKind.i64.wrap (((linesN (s.Blocks.take k) + b.Lines.length : Nat) : Int) + 2) = ((linesN (s.Blocks.take (k + 1)) : Nat) : Int) := by
        have := linesN_small hv hs k
        rw [IntWalk.i64_in _ (by omega), linesN_step hx]; omega
      refine loop_s [3, 7, 1, 4, 5, 6] [1, 4, 5, 6] (fun j : Nat => [(3, .sl (σ.length + 1) (txB s.Blocks k b j).length 0 (txB s.Blocks k b j).length), (7, .t (.int .i64 (j : Nat)))]) (fun j => σ ++ [.box [.t (.lst 3 (s.Blocks.map SheetBlock.ts))], .slc 1 (byteRows (txB s.Blocks k b j)), .box [.t (.str b.Kind), .t (.str b.Name), .t (.lst 2 (b.Lines.map SheetLine.ts))]]) (fun j => j ≤ b.Lines.length) (fun j => b.Lines.length - j) 0 (σ.length + 3) (fun _ => by simp) (by omega) (Nat.zero_le _) rfl rfl ?_
      rintro j hjl
      simp -implicitDefEqProofs only [keep, List.length_map, S0, S1, S2, S3, S4, S5, S6, S7, S8, S9, S10, S11, S12, S13, S14, S15, S16, S17, opv, opvs, eget, env0, setD, lenStr, lenSl, isNilP, isNilS, putAt, if_true, if_false, reduceCtorEq, Nat.reduceLeDiff, Nat.reduceEqDiff, Nat.reduceSub, Nat.reduceMul, Nat.reduceAdd]
      refine cond_split (fun h2 => ?_) (fun h2 => ?_)
      · obtain ⟨x, hy, hjt⟩ := at_of h2
        have mor2 := i64_succ (show j < 4611686018427387904 by omega)
        have hxo := hbo.Lines.2 x (mem_at hy)
        have g1 := block_line hbr (mem_at hy)
        have g3 := txB_len hv hs hx j
        simp -implicitDefEqProofs only [hy, mor2, SheetLine.ts, byteRows_len, byteRows_app, Nat.mul_one, nat_nn, Nat.zero_le, List.getElem?_map, Option.map_some, List.length_map, S0, S1, S2, S3, S4, S5, S6, S7, S8, S9, S10, S11, S12, S13, S14, S15, S16, S17, opv, opvs, eget, env0, setD, lenStr, lenSl, isNilP, isNilS, putAt, if_true, if_false, reduceCtorEq, Nat.reduceLeDiff, Nat.reduceEqDiff, Nat.reduceSub, Nat.reduceMul, Nat.reduceAdd]
        have hcall := spec_l40Line x hxo
        simp only [SheetLine.vs] at hcall
        refine call_pure (hcall _) ?_
        simp -implicitDefEqProofs only [hy, mor2, byteRows_len, byteRows_app, Nat.mul_one, nat_nn, Nat.zero_le, List.getElem?_map, Option.map_some, List.length_map, S0, S1, S2, S3, S4, S5, S6, S7, S8, S9, S10, S11, S12, S13, S14, S15, S16, S17, opv, opvs, eget, env0, setD, lenStr, lenSl, isNilP, isNilS, putAt, if_true, if_false, reduceCtorEq, Nat.reduceLeDiff, Nat.reduceEqDiff, Nat.reduceSub, Nat.reduceMul, Nat.reduceAdd]
        repeat' (first | (refine ⟨by (try simp only [List.length_append, List.length_cons, List.length_nil] at *); (try simp only [maxBy]); omega, ?_⟩; (try simp -implicitDefEqProofs only [hy, mor2, byteRows_len, byteRows_app, Nat.mul_one, nat_nn, Nat.zero_le, List.getElem?_map, Option.map_some, List.length_map, S0, S1, S2, S3, S4, S5, S6, S7, S8, S9, S10, S11, S12, S13, S14, S15, S16, S17, opv, opvs, eget, env0, setD, lenStr, lenSl, isNilP, isNilS, putAt, if_true, if_false, reduceCtorEq, Nat.reduceLeDiff, Nat.reduceEqDiff, Nat.reduceSub, Nat.reduceMul, Nat.reduceAdd])) | fail)
        have l1 : (txB s.Blocks k b j).length + ((lineT x).length + 3) = (txB s.Blocks k b (j + 1)).length := by rw [← txB_step hy]; simp only [List.length_append, List.length_cons, List.length_nil]
        rw [l1, txB_step hy]
        first
          | exact lk_s0 (j + 1) (by simp) (by omega) rfl (by omega) (by omega) (by simp [keep, eget])
          | exact lk_s (j + 1) (by simp) (by omega) (by rw [List.append_assoc]; rfl) (by omega) (by omega) (by rw [q_ltσ_app, ltσ_mono (by omega) hσ]; simp [ltσ, Ab.Obj.lt, V.lts, V.lt]; exact ltss_map (fun _ => rfl) _) (by simp [ltE, keep, eget, V.lt]) (by simp [keep, eget])
          | trace_state
      · have hkk := end_of h2 hjl
        subst hkk
        have g3 := txB_len hv hs hx b.Lines.length
        simp -implicitDefEqProofs only [keep, m1, m2, more, byteRows_len, byteRows_app, Nat.mul_one, nat_nn, Nat.zero_le, List.getElem?_map, Option.map_some, List.length_map, S0, S1, S2, S3, S4, S5, S6, S7, S8, S9, S10, S11, S12, S13, S14, S15, S16, S17, opv, opvs, eget, env0, setD, lenStr, lenSl, isNilP, isNilS, putAt, if_true, if_false, reduceCtorEq, Nat.reduceLeDiff, Nat.reduceEqDiff, Nat.reduceSub, Nat.reduceMul, Nat.reduceAdd]
        repeat' (first | (refine ⟨by (try simp only [List.length_append, List.length_cons, List.length_nil] at *); (try simp only [maxBy]); omega, ?_⟩; (try simp -implicitDefEqProofs only [hx, more, m1, m2, byteRows_len, byteRows_app, Nat.mul_one, nat_nn, Nat.zero_le, List.getElem?_map, Option.map_some, List.length_map, S0, S1, S2, S3, S4, S5, S6, S7, S8, S9, S10, S11, S12, S13, S14, S15, S16, S17, opv, opvs, eget, env0, setD, lenStr, lenSl, isNilP, isNilS, putAt, if_true, if_false, reduceCtorEq, Nat.reduceLeDiff, Nat.reduceEqDiff, Nat.reduceSub, Nat.reduceMul, Nat.reduceAdd])) | fail)
        have l1 : (txB s.Blocks k b b.Lines.length).length + 4 = (sheetT (s.Blocks.take (k + 1))).length := by rw [← txB_end hx]; simp only [List.length_append, List.length_cons, List.length_nil]
        rw [l1, txB_end hx]
        first
          | exact lk_s0 (k + 1) (by simp) (by omega) rfl (by omega) (by omega) (by simp [keep, eget])
          | exact lk_s (k + 1) (by simp) (by omega) (by rw [List.append_assoc]; rfl) (by omega) (by omega) (by rw [q_ltσ_app, ltσ_mono (by omega) hσ]; simp [ltσ, Ab.Obj.lt, V.lts, V.lt]; exact ltss_map (fun _ => rfl) _) (by simp [ltE, keep, eget, V.lt]) (by simp [keep, eget])
          | trace_state
    · have hkk := end_of h1 hkl
      subst hkk
      have hall : s.Blocks.take s.Blocks.length = s.Blocks := List.take_of_length_le (Nat.le_refl _)
      have e1 := sheet_small hv hs s.Blocks.length
      rw [hall] at e1
      simp -implicitDefEqProofs only [keep, hall, nat_nn, Nat.zero_le, List.getElem?_map, Option.map_some, List.length_map, S0, S1, S2, S3, S4, S5, S6, S7, S8, S9, S10, S11, S12, S13, S14, S15, S16, S17, opv, opvs, eget, env0, setD, lenStr, lenSl, isNilP, isNilS, putAt, if_true, if_false, reduceCtorEq, Nat.reduceLeDiff, Nat.reduceEqDiff, Nat.reduceSub, Nat.reduceMul, Nat.reduceAdd]
      repeat' (first | ((with_reducible refine cond_known (fun h => ?_) (fun h => ?_)) <;> (replace hh := And.intro h hh; clear h; simp -implicitDefEqProofs only [hh, cond_t, cond_f, byteRows_len, byteRows_app, Nat.mul_one, nat_nn, Nat.zero_le, List.getElem?_map, Option.map_some, List.length_map, S0, S1, S2, S3, S4, S5, S6, S7, S8, S9, S10, S11, S12, S13, S14, S15, S16, S17, opv, opvs, eget, env0, setD, lenStr, lenSl, isNilP, isNilS, putAt, if_true, if_false, reduceCtorEq, Nat.reduceLeDiff, Nat.reduceEqDiff, Nat.reduceSub, Nat.reduceMul, Nat.reduceAdd])) | fail)
      · have e : printR s = [] := by
          simp only [Known] at hh
          rw [printR, if_neg]; simp at hh; omega
        first | exact fin0 (by rw [e]) | exact fin (by rw [e]) rfl
      · have e : printR s = [] := by
          simp only [Known] at hh
          rw [printR, if_neg]; simp at hh; omega
        first | exact fin0 (by rw [e]) | exact fin (by rw [e]) rfl
      · have e : printR s = sheetT s.Blocks := by
          simp only [Known] at hh
          rw [printR, if_pos]; simp at hh; exact ⟨hv, by omega, by omega⟩
        rw [show rowsOf (σ ++ [.box [.t (.lst 3 (s.Blocks.map SheetBlock.ts))], .slc 1 (byteRows (sheetT s.Blocks))]) 1 (.sl (σ.length + 1) (sheetT s.Blocks).length 0 (sheetT s.Blocks).length) = some (byteRows (sheetT s.Blocks)) from q_rows_whole _ _ _ _ _ (by simp) (by rw [byteRows_len]) (by rw [byteRows_len])]
        simp -implicitDefEqProofs only [q_bytesOf_rows, S0, S1, S2, S3, S4, S5, S6, S7, S8, S9, S10, S11, S12, S13, S14, S15, S16, S17, opv, opvs, eget, env0, setD, lenStr, lenSl, isNilP, isNilS, putAt, if_true, if_false, reduceCtorEq, Nat.reduceLeDiff, Nat.reduceEqDiff, Nat.reduceSub, Nat.reduceMul, Nat.reduceAdd]
        first | exact fin0 (by rw [e]) | exact fin (by rw [e]) rfl

end Go.Proofs.YtnnnemgbgilfaaaDoor.W
