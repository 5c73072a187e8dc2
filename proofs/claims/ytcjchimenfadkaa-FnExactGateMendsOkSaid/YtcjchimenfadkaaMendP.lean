/- Rows of fields: a greedy row is full iff a depth-first search finds no circle. Plain law. Conditions: none. -/
import Init
set_option linter.unusedSimpArgs false
set_option linter.unusedVariables false
set_option linter.defProp false
namespace Go.Proofs.Ytcjchimenfadkaa.W
abbrev Nm := List UInt8
section
variable (rds : Nm → List Nm)
/-- each stands behind what it reads -/
inductive Topo : List Nm → Prop
  | nil : Topo []
  | snoc (l : List Nm) (f : Nm) : Topo l → f ∉ l → (∀ y ∈ rds f, y ∈ l) → Topo (l ++ [f])
abbrev Sf := Nm → Nat
def setS (s : Sf) (x : Nm) (v : Nat) : Sf := fun y => if y = x then v else s y
def dfsL (w : Sf → Nm → Bool × Sf) : List Nm → Sf → Bool × Sf
  | [], s => (true, s)
  | y :: ys, s => if (w s y).1 = true then dfsL w ys (w s y).2 else (false, (w s y).2)
def dfs : Nat → Sf → Nm → Bool × Sf
  | 0, s, _ => (false, s)
  | n + 1, s, x => if s x = 1 then (false, s) else if s x = 2 then (true, s) else
      if (dfsL (dfs n) (rds x) (setS s x 1)).1 = true then (true, setS (dfsL (dfs n) (rds x) (setS s x 1)).2 x 2) else (false, (dfsL (dfs n) (rds x) (setS s x 1)).2)
theorem sub_len : ∀ {a b : List Nm}, a.Nodup → (∀ x ∈ a, x ∈ b) → a.length ≤ b.length
  | [], _, _, _ => Nat.zero_le _
  | x :: a, b, hn, hs => by
    have h1 := List.nodup_cons.1 hn
    have hb := hs x (by simp)
    have := sub_len (a := a) (b := b.erase x) h1.2 fun y hy => (List.mem_erase_of_ne (fun (e : y = x) => h1.1 (by rw [← e]; exact hy))).2 (hs y (by simp [hy]))
    rw [List.length_erase_of_mem hb] at this
    have := List.length_pos_of_mem hb
    simp only [List.length_cons]
    omega
theorem Topo.nodup {l : List Nm} (h : Topo rds l) : l.Nodup := by
  induction h with
  | nil => exact List.nodup_nil
  | snoc l f _ hf _ ih =>
    rw [List.nodup_append]
    exact ⟨ih, by simp, fun a ha b hb => by rintro rfl; simp at hb; exact hf (hb ▸ ha)⟩
/-! ### a row in order: the search finds no circle -/
theorem dfsL_ok {w : Sf → Nm → Bool × Sf} {G : Sf → Prop} {l : List Nm} (hw : ∀ s, G s → ∀ x ∈ l, (w s x).1 = true ∧ G (w s x).2) : ∀ (ys : List Nm) (s : Sf), G s → (∀ y ∈ ys, y ∈ l) → (dfsL w ys s).1 = true ∧ G (dfsL w ys s).2
  | [], s, hg, _ => ⟨rfl, hg⟩
  | y :: ys, s, hg, hl => by
    have h := hw s hg y (hl y (by simp))
    rw [dfsL, if_pos h.1]
    exact dfsL_ok hw ys _ h.2 fun z hz => hl z (by simp [hz])
theorem dfs_topo {l : List Nm} (h : Topo rds l) : ∀ (n : Nat) (s : Sf) (x : Nm), l.length ≤ n → x ∈ l → (∀ z ∈ l, s z ≠ 1) → (dfs rds n s x).1 = true ∧ ∀ z, (dfs rds n s x).2 z = 1 ↔ s z = 1 := by
  induction h with
  | nil => intro n s x _ hx; simp at hx
  | snoc l f hl hf hr ih =>
    intro n s x hn hx hg
    rw [List.length_append, List.length_singleton] at hn
    rcases List.mem_append.1 hx with hx | hx
    · exact ih n s x (by omega) hx fun z hz => hg z (by simp [hz])
    · obtain rfl : x = f := by simpa using hx
      obtain ⟨n, rfl⟩ : ∃ m, n = m + 1 := ⟨n - 1, by omega⟩
      have g1 := hg x (by simp)
      rw [dfs, if_neg g1]
      split
      · exact ⟨rfl, fun z => Iff.rfl⟩
      · have := dfsL_ok (w := dfs rds n) (G := fun s' => (∀ z ∈ l, s' z ≠ 1) ∧ ∀ z, s' z = 1 ↔ setS s x 1 z = 1) (l := l) (fun s' hs' y hy => by
          have i := ih n s' y (by omega) hy hs'.1
          exact ⟨i.1, fun z hz => fun e => hs'.1 z hz ((i.2 z).1 e), fun z => (i.2 z).trans (hs'.2 z)⟩) (rds x) (setS s x 1) ⟨fun z hz => by
            have e : z ≠ x := fun e => hf (by rw [← e]; exact hz)
            rw [setS, if_neg e]
            exact hg z (by simp [hz]), fun z => Iff.rfl⟩ hr
        rw [if_pos this.1]
        refine ⟨rfl, fun z => ?_⟩
        by_cases e : z = x
        · subst e; simp [setS, g1]
        · have t := this.2.2 z
          simp only [setS, if_neg e] at t ⊢
          exact t
/-! ### no circle: a row in order -/
def Blk (s : Sf) : Prop := ∃ l, Topo rds l ∧ ∀ z, s z = 2 ↔ z ∈ l
theorem dfsL_blk {w : Sf → Nm → Bool × Sf} (hw : ∀ s x, (w s x).1 = true → Blk rds s → Blk rds (w s x).2 ∧ (w s x).2 x = 2 ∧ (∀ z, s z = 1 → (w s x).2 z = 1) ∧ ∀ z, s z = 2 → (w s x).2 z = 2) : ∀ (ys : List Nm) (s : Sf), (dfsL w ys s).1 = true → Blk rds s → Blk rds (dfsL w ys s).2 ∧ (∀ y ∈ ys, (dfsL w ys s).2 y = 2) ∧ (∀ z, s z = 1 → (dfsL w ys s).2 z = 1) ∧ ∀ z, s z = 2 → (dfsL w ys s).2 z = 2
  | [], s, _, hb => ⟨hb, by simp, fun _ h => h, fun _ h => h⟩
  | y :: ys, s, ht, hb => by
    rw [dfsL] at ht ⊢
    split at ht
    · rename_i h1
      rw [if_pos h1]
      have a := hw s y h1 hb
      have b := dfsL_blk hw ys _ ht a.1
      refine ⟨b.1, fun z hz => ?_, fun z hz => b.2.2.1 z (a.2.2.1 z hz), fun z hz => b.2.2.2 z (a.2.2.2 z hz)⟩
      rcases List.mem_cons.1 hz with rfl | hz
      · exact b.2.2.2 _ a.2.1
      · exact b.2.1 z hz
    · cases ht
theorem dfs_blk : ∀ (n : Nat) (s : Sf) (x : Nm), (dfs rds n s x).1 = true → Blk rds s → Blk rds (dfs rds n s x).2 ∧ (dfs rds n s x).2 x = 2 ∧ (∀ z, s z = 1 → (dfs rds n s x).2 z = 1) ∧ ∀ z, s z = 2 → (dfs rds n s x).2 z = 2
  | 0, s, x, h, _ => by cases h
  | n + 1, s, x, h, hb => by
    rw [dfs] at h ⊢
    split at h
    · cases h
    · rename_i n1
      split at h
      · rename_i n2
        rw [if_neg n1, if_pos n2]
        exact ⟨hb, n2, fun _ h => h, fun _ h => h⟩
      · rename_i n2
        split at h
        · rename_i h1
          rw [if_neg n1, if_neg n2, if_pos h1]
          have hb' : Blk rds (setS s x 1) := by
            obtain ⟨l, tl, hl⟩ := hb
            refine ⟨l, tl, fun z => ?_⟩
            rw [setS]
            split
            · rename_i e; subst e
              exact ⟨fun h => absurd h (by decide), fun h => absurd ((hl _).2 h) n2⟩
            · exact hl z
          have d := dfsL_blk rds (dfs_blk n) (rds x) _ h1 hb'
          obtain ⟨l, tl, hl⟩ := d.1
          have gx : (dfsL (dfs rds n) (rds x) (setS s x 1)).2 x = 1 := d.2.2.1 x (by simp [setS])
          have hx : x ∉ l := fun h => by have := (hl x).2 h; rw [gx] at this; cases this
          refine ⟨⟨l ++ [x], .snoc l x tl hx fun y hy => (hl y).1 (d.2.1 y hy), fun z => ?_⟩, by simp [setS], fun z hz => ?_, fun z hz => ?_⟩
          · by_cases e : z = x
            · subst e; simp [setS]
            · simp only [setS, if_neg e]; rw [hl z]; simp [e]
          · have e : z ≠ x := fun e => n1 (e ▸ hz)
            simp only [setS, if_neg e]
            exact d.2.2.1 z (by simp only [setS, if_neg e]; exact hz)
          · have e : z ≠ x := fun e => n2 (e ▸ hz)
            simp only [setS, if_neg e]
            exact d.2.2.2 z (by simp only [setS, if_neg e]; exact hz)
        · cases h
/-! ### the greedy row -/
variable (names : List Nm) (rdy : Nm → List Nm → Bool)
def nextF (row : List Nm) (f : Nm) : Bool := !row.contains f && rdy f row
def stepR (row : List Nm) : List Nm := match names.find? (nextF rdy row) with
  | none => row
  | some f => row ++ [f]
def rowR : Nat → List Nm → List Nm
  | 0, row => row
  | n + 1, row => stepR names rdy (rowR n row)
end
theorem next_some {rds : Nm → List Nm} {rdy : Nm → List Nm → Bool} (hrdy : ∀ f row, rdy f row = true ↔ ∀ y ∈ rds f, y ∈ row) {row : List Nm} {f : Nm} : nextF rdy row f = true ↔ f ∉ row ∧ ∀ y ∈ rds f, y ∈ row := by
  rw [nextF, Bool.and_eq_true, Bool.not_eq_true', hrdy]
  simp
theorem rowR_topo {rds : Nm → List Nm} {names : List Nm} {rdy : Nm → List Nm → Bool} (hrdy : ∀ f row, rdy f row = true ↔ ∀ y ∈ rds f, y ∈ row) : ∀ n, Topo rds (rowR names rdy n []) ∧ ∀ x ∈ rowR names rdy n [], x ∈ names
  | 0 => ⟨.nil, by simp [rowR]⟩
  | n + 1 => by
    have ih := rowR_topo (names := names) hrdy n
    rw [rowR, stepR]
    split
    · exact ih
    · rename_i f hf
      have h1 := (next_some hrdy).1 (List.find?_some hf)
      have h2 := List.mem_of_find?_eq_some hf
      refine ⟨.snoc _ f ih.1 h1.1 h1.2, fun x hx => ?_⟩
      rcases List.mem_append.1 hx with hx | hx
      · exact ih.2 x hx
      · simp at hx; exact hx ▸ h2
theorem some_ready {rds : Nm → List Nm} {names row : List Nm} (hr : ∀ x ∈ names, ∀ y ∈ rds x, y ∈ names) {l : List Nm} (h : Topo rds l) : (∀ z ∈ l, z ∈ names → z ∈ row) ∨ ∃ f ∈ names, f ∉ row ∧ ∀ y ∈ rds f, y ∈ row := by
  induction h with
  | nil => exact .inl (by simp)
  | snoc l f _ _ hf ih =>
    rcases ih with ih | ih
    · by_cases h1 : f ∈ names
      · by_cases h2 : f ∈ row
        · refine .inl fun z hz hn => ?_
          rcases List.mem_append.1 hz with hz | hz
          · exact ih z hz hn
          · simp at hz; exact hz ▸ h2
        · exact .inr ⟨f, h1, h2, fun y hy => ih y (hf y hy) (hr f h1 y hy)⟩
      · refine .inl fun z hz hn => ?_
        rcases List.mem_append.1 hz with hz | hz
        · exact ih z hz hn
        · simp at hz; exact absurd (hz ▸ hn) h1
    · exact .inr ih
theorem rowR_full {rds : Nm → List Nm} {names : List Nm} {rdy : Nm → List Nm → Bool} (hrdy : ∀ f row, rdy f row = true ↔ ∀ y ∈ rds f, y ∈ row) (hr : ∀ x ∈ names, ∀ y ∈ rds x, y ∈ names) (hd : names.Nodup) {l : List Nm} (hl : Topo rds l) (ha : ∀ x ∈ names, x ∈ l) : ∀ n, n ≤ names.length → (rowR names rdy n []).length = n
  | 0, _ => rfl
  | n + 1, hn => by
    have ih := rowR_full hrdy hr hd hl ha n (by omega)
    rw [rowR, stepR]
    split
    · rename_i hnone
      rw [List.find?_eq_none] at hnone
      rcases some_ready (row := rowR names rdy n []) hr hl with h | ⟨f, h1, h2, h3⟩
      · have := sub_len hd fun x hx => h x (ha x hx) hx
        omega
      · exact absurd ((next_some hrdy).2 ⟨h2, h3⟩) (hnone f h1)
    · rw [List.length_append, ih, List.length_singleton]
/-- A greedy row is full iff the search finds no circle. -/
theorem rows_agree {rds : Nm → List Nm} {names : List Nm} {rdy : Nm → List Nm → Bool} (hrdy : ∀ f row, rdy f row = true ↔ ∀ y ∈ rds f, y ∈ row) (hr : ∀ x ∈ names, ∀ y ∈ rds x, y ∈ names) (hd : names.Nodup) : ((rowR names rdy names.length []).length = names.length) ↔ (dfsL (dfs rds (names.length + 1)) names fun _ => 0).1 = true := by
  constructor
  · intro h
    have ht := rowR_topo (names := names) hrdy names.length
    have hall : ∀ x ∈ names, x ∈ rowR names rdy names.length [] := fun x hx => by
      refine Classical.byContradiction fun hx' => ?_
      have := sub_len (a := x :: rowR names rdy names.length []) (b := names) (List.nodup_cons.2 ⟨hx', ht.1.nodup⟩) (fun y hy => by
        rcases List.mem_cons.1 hy with rfl | hy
        · exact hx
        · exact ht.2 y hy)
      simp only [List.length_cons] at this
      omega
    exact (dfsL_ok (w := dfs rds (names.length + 1)) (G := fun s => ∀ z ∈ rowR names rdy names.length [], s z ≠ 1) (l := rowR names rdy names.length []) (fun s hs x hx => by
      have := dfs_topo rds ht.1 (names.length + 1) s x (by omega) hx hs
      exact ⟨this.1, fun z hz e => hs z hz ((this.2 z).1 e)⟩) names _ (fun z _ => by simp) hall).1
  · intro h
    have := dfsL_blk rds (dfs_blk rds (names.length + 1)) names _ h ⟨[], .nil, by simp⟩
    obtain ⟨l, tl, hl⟩ := this.1
    exact rowR_full hrdy hr hd tl (fun x hx => (hl x).1 (this.2.1 x hx)) names.length (Nat.le_refl _)
end Go.Proofs.Ytcjchimenfadkaa.W
