/- What a trimmed sheet is. Conditions: none. -/
import Derived.Test.YtkppdeobinefbaaDoorSheetTrimE
set_option linter.unusedSimpArgs false
set_option linter.unusedVariables false
set_option linter.defProp false
open Go Go.Ab
set_option maxHeartbeats 2000000
namespace Go.Proofs.YtkppdeobinefbaaDoor.W
theorem lineT_is {y : SheetLine} (hy : y.Ok) : T.isL shSheetLine y.ts := by
  simp only [SheetLine.ts, shSheetLine, isL_cons, isL_nil, is_str]
  exact ⟨_, _, rfl, ⟨_, rfl, by have := hy.Key; simp only [maxLen]; omega⟩, _, _, rfl, is_strs hy.Words.1 hy.Words.2, rfl⟩
theorem linesT_is {l : List SheetLine} (h : SheetLine.OkS l) : T.is (.sl 2 shSheetLine) (tSheetLineS l) := by
  have := h.1
  simp only [tSheetLineS, T.is]
  refine ⟨_, rfl, by rw [List.length_map]; simp only [maxLen]; omega, fun r hr => ?_⟩
  obtain ⟨y, hy', rfl⟩ := List.mem_map.1 hr
  exact lineT_is (h.2 y hy')
theorem blockT_is {b : SheetBlock} (h : b.Ok) : T.isL shSheetBlock b.ts := by
  simp only [SheetBlock.ts]
  exact mkSheetBlock (by have := h.Kind; simp only [maxLen]; omega) (by have := h.Name; simp only [maxLen]; omega) (linesT_is h.Lines)
theorem blocksT_is {l : List SheetBlock} (h : SheetBlock.OkS l) : T.is (.sl 3 shSheetBlock) (tSheetBlockS l) := by
  have := h.1
  simp only [tSheetBlockS, T.is]
  refine ⟨_, rfl, by rw [List.length_map]; simp only [maxLen]; omega, fun r hr => ?_⟩
  obtain ⟨y, hy', rfl⟩ := List.mem_map.1 hr
  exact blockT_is (h.2 y hy')
theorem filter_size {p : SheetLine → Bool} : ∀ ls : List SheetLine, T.sizeR ((ls.filter p).map SheetLine.ts) ≤ T.sizeR (ls.map SheetLine.ts)
  | [] => by simp
  | x :: ls => by
    have ih := filter_size (p := p) ls
    rw [List.filter_cons]
    split
    · simp only [List.map_cons, sizeR_cons]; omega
    · simp only [List.map_cons, sizeR_cons]; omega
theorem trimB_size (b : SheetBlock) : T.sizeL (trimB b).ts ≤ T.sizeL b.ts := by
  have h1 := filter_size (p := keepL b.Kind) b.Lines
  have h2 : (trimL b.Kind b.Lines).length ≤ b.Lines.length := List.length_filter_le _ _
  simp only [SheetBlock.ts, trimB, sizeSheetBlock, size_lst, List.length_map]
  simp only [trimL] at h2 ⊢
  omega
theorem trims_size : ∀ l : List SheetBlock, T.sizeR ((l.map trimB).map SheetBlock.ts) ≤ T.sizeR (l.map SheetBlock.ts)
  | [] => by simp
  | b :: l => by
    have h1 := trims_size l
    have h2 := trimB_size b
    simp only [List.map_cons, sizeR_cons]
    omega
def resT_SheetTrim (s : Sheet) : List T := (trimS s).ts
theorem specF_SheetTrim (s : Sheet) (hs : s.Ok) (σ : Store) : ACalls Tryd.prog 44 [.agg s.vs] σ fun rr σ' => rr = .agg ((resT_SheetTrim s).map .t) ∧ σ' = σ := specF_SheetTrim0 s hs σ
theorem implO_SheetTrim (s : Sheet) (hs : s.Ok) (σ : Store) : ACalls Tryd.prog 42 [.agg s.vs] σ (ToLR (resT_SheetTrim s) σ) := acalls_cut (impl_SheetTrimC s hs σ)
theorem res_SheetTrim (s : Sheet) (h : T.isL shSheet s.ts) (z : T.sizeL s.ts ≤ 1048576) (o : s.Ok) : T.isL shSheet (resT_SheetTrim s) ∧ T.sizeL (resT_SheetTrim s) ≤ 8388608 := by
  unfold resT_SheetTrim trimS
  split
  · refine ⟨mkSheet (blocksT_is ⟨by rw [List.length_map]; exact o.Blocks.1, fun y hy => ?_⟩), ?_⟩
    · obtain ⟨b, hb, rfl⟩ := List.mem_map.1 hy
      exact trimB_ok (o.Blocks.2 b hb)
    · have hs := trims_size s.Blocks
      unfold Sheet.ts at z ⊢
      rw [sizeSheet, size_lst, List.length_map] at z ⊢
      rw [List.length_map]
      simp only
      omega
  · refine ⟨mkSheet (blocksT_is ⟨by simp, by simp⟩), ?_⟩
    simp only [Sheet.ts, List.map_nil, sizeSheet, size_lst, sizeR_nil, List.length_nil]
    omega
end Go.Proofs.YtkppdeobinefbaaDoor.W
