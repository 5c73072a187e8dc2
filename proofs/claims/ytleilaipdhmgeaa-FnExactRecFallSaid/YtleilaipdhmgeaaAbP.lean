/- Loops with a ghost state; a tree's size; values that are all one's own. Conditions: none (a library of lemmas). -/
import Derived.Test.YtleilaipdhmgeaaAbO
import Derived.IntWalk
set_option linter.unusedSimpArgs false
set_option linter.unusedVariables false
set_option linter.defProp false
namespace Go.Ab

/-! ### loops: at the head the slots vs x (which turn) and those of ks (which stay as they were at e) are known -/
def LJ {X : Type} (ks : List Nat) (vs : X → Env) (st : X → Store) (I : X → Prop) (ms : X → Nat) (e : Env) (n : Nat) (s : St) : Prop := ∃ x, I x ∧ n = ms x ∧ s = ⟨.go, vs x ++ keep ks e, st x⟩
/-- What a round leaves: a next ghost state that is nearer to the end. m says how many objects are kept. -/
def LK {X : Type} (b : Nat) (ks' ks : List Nat) (vs : X → Env) (st : X → Store) (I : X → Prop) (ms : X → Nat) (e : Env) (m : Store → Nat) (x : X) (s : St) : Prop :=
  CutOk b s ks' (m s.σ) ∧ ∃ n', n' < ms x ∧ LJ ks vs st I ms e n' (s.cut ks' (m s.σ))
section
variable {X : Type} {b : Nat} {body : (Ex → St → Prop) → St → Prop} {Q : Ex → St → Prop} {e e' : Env} {σ σ' τ : Store} {ks ks' : List Nat} {vs : X → Env} {st : X → Store} {I : X → Prop} {ms : X → Nat} {x : X}
/-- A loop that leaves the store: what a round makes goes at its end. -/
theorem loop_p (ks' ks : List Nat) (vs : X → Env) (I : X → Prop) (ms : X → Nat) (x0 : X) (hb : b ≤ σ.length) (hI : I x0) (h1 : keep ks' e = vs x0 ++ keep ks e)
    (h3 : ∀ x, I x → body (thenK (LK b ks' ks vs (fun _ => σ) I ms e (fun _ => σ.length) x) Q) ⟨.go, vs x ++ keep ks e, σ⟩) : LoopV b body Q ⟨.go, e, σ⟩ := by
  refine ⟨ks', fun _ => σ.length, LJ ks vs (fun _ => σ) I ms e, ms x0, cut_all hb, ⟨x0, hI, rfl, by simp only [St.cut, h1, List.take_length]⟩, ?_⟩
  rintro n s' ⟨x, hx, rfl, rfl⟩
  exact h3 x hx
theorem lk_p {m : Nat} (x' : X) (hb : b ≤ σ.length) (hmm : m = σ.length) (hσ : ltσ σ.length σ = true) (hs : σ' = σ ++ τ) (hm : ms x' < ms x) (hI : I x') (hl : ltE σ.length (keep ks' e') = true) (he : keep ks' e' = vs x' ++ keep ks e) : LK b ks' ks vs (fun _ => σ) I ms e (fun _ => m) x ⟨.go, e', σ'⟩ := by
  subst hmm hs
  exact ⟨cut_to rfl hb hl hσ, _, hm, x', hI, rfl, by simp only [St.cut, he, List.take_left]⟩
theorem lk_p0 {m : Nat} (x' : X) (hb : b ≤ σ.length) (hmm : m = σ.length) (hm : ms x' < ms x) (hI : I x') (he : keep ks' e' = vs x' ++ keep ks e) : LK b ks' ks vs (fun _ => σ) I ms e (fun _ => m) x ⟨.go, e', σ⟩ := by
  subst hmm
  exact ⟨cut_all hb, _, hm, x', hI, rfl, by simp only [St.cut, he, List.take_length]⟩
/-- A loop that makes objects; none is dropped. -/
theorem loop_g (ks' ks : List Nat) (vs : X → Env) (st : X → Store) (I : X → Prop) (ms : X → Nat) (x0 : X) (hb : b ≤ σ.length) (hI : I x0) (hs : σ = st x0) (h1 : keep ks' e = vs x0 ++ keep ks e)
    (h3 : ∀ x, I x → body (thenK (LK b ks' ks vs st I ms e List.length x) Q) ⟨.go, vs x ++ keep ks e, st x⟩) : LoopV b body Q ⟨.go, e, σ⟩ := by
  refine loop_all ks' (LJ ks vs st I ms e) (ms x0) hb ⟨x0, hI, rfl, by simp only [St.cut, h1, List.take_length, ← hs]⟩ ?_
  rintro n s' ⟨x, hx, rfl, rfl⟩
  exact h3 x hx
theorem lk_g (x' : X) (hm : ms x' < ms x) (hI : I x') (hb : b ≤ σ'.length) (hs : σ' = st x') (he : keep ks' e' = vs x' ++ keep ks e) : LK b ks' ks vs st I ms e List.length x ⟨.go, e', σ'⟩ :=
  ⟨cut_all hb, _, hm, x', hI, rfl, by simp only [St.cut, he, List.take_length, hs]⟩
end

/-- A counter that is in a list. -/
theorem at_of {α : Type} {l : List α} {k : Nat} (h : decide ((k : Int) < (l.length : Int)) = true) : ∃ x, l[k]? = some x ∧ k < l.length := by
  have hk : k < l.length := by simpa using h
  exact ⟨l[k], by simp [hk], hk⟩
theorem end_of {n k : Nat} (h : decide ((k : Int) < (n : Int)) = false) (hk : k ≤ n) : k = n := by
  have : ¬ (k : Int) < n := by simpa using h
  omega
theorem drop_of {α : Type} {l : List α} {k : Nat} {x : α} (h : l[k]? = some x) : l.drop k = x :: l.drop (k + 1) := by
  obtain ⟨hk, rfl⟩ := List.getElem?_eq_some_iff.1 h
  exact (List.getElem_cons_drop hk).symm
theorem take_of {α : Type} {l : List α} {k : Nat} {x : α} (h : l[k]? = some x) : l.take (k + 1) = l.take k ++ [x] := by
  obtain ⟨hk, rfl⟩ := List.getElem?_eq_some_iff.1 h
  exact (List.take_append_getElem hk).symm
theorem all_step {α : Type} {l : List α} {p : α → Bool} {k : Nat} {x : α} (h : l[k]? = some x) (hp : (l.take k).all p = true) (hx : p x = true) : (l.take (k + 1)).all p = true := by
  rw [take_of h, List.all_append, hp]
  simp [hx]
theorem all_not {α : Type} {l : List α} {p : α → Bool} {k : Nat} {x : α} (h : l[k]? = some x) (hx : p x = false) : l.all p = false := by
  obtain ⟨hk, rfl⟩ := List.getElem?_eq_some_iff.1 h
  rw [List.all_eq_false]
  exact ⟨_, List.getElem_mem hk, by simp [hx]⟩
theorem i64_succ {k : Nat} (h : k < 4611686018427387904) : IntKind.i64.wrap ((k : Int) + 1) = ((k + 1 : Nat) : Int) :=
  IntWalk.i64_in _ (by omega)

theorem lt_head {σ ρ : Store} (hσ : ltσ σ.length σ = true) (hρ : ltσ (σ.length + ρ.length) ρ = true) : ltσ (σ ++ ρ).length (σ ++ ρ) = true := by
  rw [List.length_append, q_ltσ_app, ltσ_mono (Nat.le_add_right _ _) hσ, hρ]
  rfl
theorem lk_pm {X : Type} {b m : Nat} {e e' : Env} {σ ρ σ' τ : Store} {ks ks' : List Nat} {vs : X → Env} {I : X → Prop} {ms : X → Nat} {x : X} (x' : X) (hb : b ≤ σ.length) (hmm : m = (σ ++ ρ).length) (hσ : ltσ σ.length σ = true) (hρ : ltσ (σ.length + ρ.length) ρ = true) (hs : σ' = ρ ++ τ) (hm : ms x' < ms x) (hI : I x') (hl : ltE (σ.length + ρ.length) (keep ks' e') = true) (he : keep ks' e' = vs x' ++ keep ks e) : LK b ks' ks vs (fun _ => σ ++ ρ) I ms e (fun _ => m) x ⟨.go, e', σ ++ σ'⟩ :=
  lk_p x' (by simp; omega) hmm (lt_head hσ hρ) (by rw [hs, List.append_assoc]) hm hI (by simpa using hl) he
/-! ### an object behind others -/
theorem q_cons_get3 (a : Obj) (l : Store) (i0 i1 : Nat) : (a :: l)[i0 + (i1 + 1)]? = l[i0 + i1]? := by
  rw [show i0 + (i1 + 1) = (i0 + i1) + 1 by omega]; rfl
theorem q_cons_set3 (a o : Obj) (l : Store) (i0 i1 : Nat) : (a :: l).set (i0 + (i1 + 1)) o = a :: l.set (i0 + i1) o := by
  rw [show i0 + (i1 + 1) = (i0 + i1) + 1 by omega]; rfl
theorem q_cons_get4 (a : Obj) (l : Store) (i0 i1 i2 : Nat) : (a :: l)[i0 + (i1 + (i2 + 1))]? = l[i0 + (i1 + i2)]? := by
  rw [show i0 + (i1 + (i2 + 1)) = (i0 + (i1 + i2)) + 1 by omega]; rfl
theorem q_cons_set4 (a o : Obj) (l : Store) (i0 i1 i2 : Nat) : (a :: l).set (i0 + (i1 + (i2 + 1))) o = a :: l.set (i0 + (i1 + i2)) o := by
  rw [show i0 + (i1 + (i2 + 1)) = (i0 + (i1 + i2)) + 1 by omega]; rfl
theorem q_cons_get5 (a : Obj) (l : Store) (i0 i1 i2 i3 : Nat) : (a :: l)[i0 + (i1 + (i2 + (i3 + 1)))]? = l[i0 + (i1 + (i2 + i3))]? := by
  rw [show i0 + (i1 + (i2 + (i3 + 1))) = (i0 + (i1 + (i2 + i3))) + 1 by omega]; rfl
theorem q_cons_set5 (a o : Obj) (l : Store) (i0 i1 i2 i3 : Nat) : (a :: l).set (i0 + (i1 + (i2 + (i3 + 1)))) o = a :: l.set (i0 + (i1 + (i2 + i3))) o := by
  rw [show i0 + (i1 + (i2 + (i3 + 1))) = (i0 + (i1 + (i2 + i3))) + 1 by omega]; rfl
theorem q_cons_get6 (a : Obj) (l : Store) (i0 i1 i2 i3 i4 : Nat) : (a :: l)[i0 + (i1 + (i2 + (i3 + (i4 + 1))))]? = l[i0 + (i1 + (i2 + (i3 + i4)))]? := by
  rw [show i0 + (i1 + (i2 + (i3 + (i4 + 1)))) = (i0 + (i1 + (i2 + (i3 + i4)))) + 1 by omega]; rfl
theorem q_cons_set6 (a o : Obj) (l : Store) (i0 i1 i2 i3 i4 : Nat) : (a :: l).set (i0 + (i1 + (i2 + (i3 + (i4 + 1))))) o = a :: l.set (i0 + (i1 + (i2 + (i3 + i4)))) o := by
  rw [show i0 + (i1 + (i2 + (i3 + (i4 + 1)))) = (i0 + (i1 + (i2 + (i3 + i4)))) + 1 by omega]; rfl
theorem q_cons_get7 (a : Obj) (l : Store) (i0 i1 i2 i3 i4 i5 : Nat) : (a :: l)[i0 + (i1 + (i2 + (i3 + (i4 + (i5 + 1)))))]? = l[i0 + (i1 + (i2 + (i3 + (i4 + i5))))]? := by
  rw [show i0 + (i1 + (i2 + (i3 + (i4 + (i5 + 1))))) = (i0 + (i1 + (i2 + (i3 + (i4 + i5))))) + 1 by omega]; rfl
theorem q_cons_set7 (a o : Obj) (l : Store) (i0 i1 i2 i3 i4 i5 : Nat) : (a :: l).set (i0 + (i1 + (i2 + (i3 + (i4 + (i5 + 1)))))) o = a :: l.set (i0 + (i1 + (i2 + (i3 + (i4 + i5))))) o := by
  rw [show i0 + (i1 + (i2 + (i3 + (i4 + (i5 + 1))))) = (i0 + (i1 + (i2 + (i3 + (i4 + i5))))) + 1 by omega]; rfl
theorem q_cons_get8 (a : Obj) (l : Store) (i0 i1 i2 i3 i4 i5 i6 : Nat) : (a :: l)[i0 + (i1 + (i2 + (i3 + (i4 + (i5 + (i6 + 1))))))]? = l[i0 + (i1 + (i2 + (i3 + (i4 + (i5 + i6)))))]? := by
  rw [show i0 + (i1 + (i2 + (i3 + (i4 + (i5 + (i6 + 1)))))) = (i0 + (i1 + (i2 + (i3 + (i4 + (i5 + i6)))))) + 1 by omega]; rfl
theorem q_cons_set8 (a o : Obj) (l : Store) (i0 i1 i2 i3 i4 i5 i6 : Nat) : (a :: l).set (i0 + (i1 + (i2 + (i3 + (i4 + (i5 + (i6 + 1))))))) o = a :: l.set (i0 + (i1 + (i2 + (i3 + (i4 + (i5 + i6)))))) o := by
  rw [show i0 + (i1 + (i2 + (i3 + (i4 + (i5 + (i6 + 1)))))) = (i0 + (i1 + (i2 + (i3 + (i4 + (i5 + i6)))))) + 1 by omega]; rfl
theorem q_cons_get9 (a : Obj) (l : Store) (i0 i1 i2 i3 i4 i5 i6 i7 : Nat) : (a :: l)[i0 + (i1 + (i2 + (i3 + (i4 + (i5 + (i6 + (i7 + 1)))))))]? = l[i0 + (i1 + (i2 + (i3 + (i4 + (i5 + (i6 + i7))))))]? := by
  rw [show i0 + (i1 + (i2 + (i3 + (i4 + (i5 + (i6 + (i7 + 1))))))) = (i0 + (i1 + (i2 + (i3 + (i4 + (i5 + (i6 + i7))))))) + 1 by omega]; rfl
theorem q_cons_set9 (a o : Obj) (l : Store) (i0 i1 i2 i3 i4 i5 i6 i7 : Nat) : (a :: l).set (i0 + (i1 + (i2 + (i3 + (i4 + (i5 + (i6 + (i7 + 1)))))))) o = a :: l.set (i0 + (i1 + (i2 + (i3 + (i4 + (i5 + (i6 + i7))))))) o := by
  rw [show i0 + (i1 + (i2 + (i3 + (i4 + (i5 + (i6 + (i7 + 1))))))) = (i0 + (i1 + (i2 + (i3 + (i4 + (i5 + (i6 + i7))))))) + 1 by omega]; rfl
theorem q_cons_get10 (a : Obj) (l : Store) (i0 i1 i2 i3 i4 i5 i6 i7 i8 : Nat) : (a :: l)[i0 + (i1 + (i2 + (i3 + (i4 + (i5 + (i6 + (i7 + (i8 + 1))))))))]? = l[i0 + (i1 + (i2 + (i3 + (i4 + (i5 + (i6 + (i7 + i8)))))))]? := by
  rw [show i0 + (i1 + (i2 + (i3 + (i4 + (i5 + (i6 + (i7 + (i8 + 1)))))))) = (i0 + (i1 + (i2 + (i3 + (i4 + (i5 + (i6 + (i7 + i8)))))))) + 1 by omega]; rfl
theorem q_cons_set10 (a o : Obj) (l : Store) (i0 i1 i2 i3 i4 i5 i6 i7 i8 : Nat) : (a :: l).set (i0 + (i1 + (i2 + (i3 + (i4 + (i5 + (i6 + (i7 + (i8 + 1))))))))) o = a :: l.set (i0 + (i1 + (i2 + (i3 + (i4 + (i5 + (i6 + (i7 + i8)))))))) o := by
  rw [show i0 + (i1 + (i2 + (i3 + (i4 + (i5 + (i6 + (i7 + (i8 + 1)))))))) = (i0 + (i1 + (i2 + (i3 + (i4 + (i5 + (i6 + (i7 + i8)))))))) + 1 by omega]; rfl
theorem q_cons_get11 (a : Obj) (l : Store) (i0 i1 i2 i3 i4 i5 i6 i7 i8 i9 : Nat) : (a :: l)[i0 + (i1 + (i2 + (i3 + (i4 + (i5 + (i6 + (i7 + (i8 + (i9 + 1)))))))))]? = l[i0 + (i1 + (i2 + (i3 + (i4 + (i5 + (i6 + (i7 + (i8 + i9))))))))]? := by
  rw [show i0 + (i1 + (i2 + (i3 + (i4 + (i5 + (i6 + (i7 + (i8 + (i9 + 1))))))))) = (i0 + (i1 + (i2 + (i3 + (i4 + (i5 + (i6 + (i7 + (i8 + i9))))))))) + 1 by omega]; rfl
theorem q_cons_set11 (a o : Obj) (l : Store) (i0 i1 i2 i3 i4 i5 i6 i7 i8 i9 : Nat) : (a :: l).set (i0 + (i1 + (i2 + (i3 + (i4 + (i5 + (i6 + (i7 + (i8 + (i9 + 1)))))))))) o = a :: l.set (i0 + (i1 + (i2 + (i3 + (i4 + (i5 + (i6 + (i7 + (i8 + i9))))))))) o := by
  rw [show i0 + (i1 + (i2 + (i3 + (i4 + (i5 + (i6 + (i7 + (i8 + (i9 + 1))))))))) = (i0 + (i1 + (i2 + (i3 + (i4 + (i5 + (i6 + (i7 + (i8 + i9))))))))) + 1 by omega]; rfl
theorem q_cons_get12 (a : Obj) (l : Store) (i0 i1 i2 i3 i4 i5 i6 i7 i8 i9 i10 : Nat) : (a :: l)[i0 + (i1 + (i2 + (i3 + (i4 + (i5 + (i6 + (i7 + (i8 + (i9 + (i10 + 1))))))))))]? = l[i0 + (i1 + (i2 + (i3 + (i4 + (i5 + (i6 + (i7 + (i8 + (i9 + i10)))))))))]? := by
  rw [show i0 + (i1 + (i2 + (i3 + (i4 + (i5 + (i6 + (i7 + (i8 + (i9 + (i10 + 1)))))))))) = (i0 + (i1 + (i2 + (i3 + (i4 + (i5 + (i6 + (i7 + (i8 + (i9 + i10)))))))))) + 1 by omega]; rfl
theorem q_cons_set12 (a o : Obj) (l : Store) (i0 i1 i2 i3 i4 i5 i6 i7 i8 i9 i10 : Nat) : (a :: l).set (i0 + (i1 + (i2 + (i3 + (i4 + (i5 + (i6 + (i7 + (i8 + (i9 + (i10 + 1))))))))))) o = a :: l.set (i0 + (i1 + (i2 + (i3 + (i4 + (i5 + (i6 + (i7 + (i8 + (i9 + i10)))))))))) o := by
  rw [show i0 + (i1 + (i2 + (i3 + (i4 + (i5 + (i6 + (i7 + (i8 + (i9 + (i10 + 1)))))))))) = (i0 + (i1 + (i2 + (i3 + (i4 + (i5 + (i6 + (i7 + (i8 + (i9 + i10)))))))))) + 1 by omega]; rfl
/-! ### one cell or more -/
theorem q_cells_t (x : T) : cellsOf (.t x) = some [.t x] := by simp only [cellsOf]
theorem q_one_t (x : T) : one (.t x) = true := by simp only [one]
theorem q_cells_nils : cellsOf (.nils) = some [.nils] := by simp only [cellsOf]
theorem q_one_nils : one (.nils) = true := by simp only [one]
theorem q_cells_nilp : cellsOf (.nilp) = some [.nilp] := by simp only [cellsOf]
theorem q_one_nilp : one (.nilp) = true := by simp only [one]
theorem q_cells_nilf : cellsOf (.nilf) = some [.nilf] := by simp only [cellsOf]
theorem q_one_nilf : one (.nilf) = true := by simp only [one]
theorem q_cells_nili : cellsOf (.nili) = some [.nili] := by simp only [cellsOf]
theorem q_one_nili : one (.nili) = true := by simp only [one]
theorem q_cells_pv (c : List T) : cellsOf (.pv c) = some [.pv c] := by simp only [cellsOf]
theorem q_one_pv (c : List T) : one (.pv c) = true := by simp only [one]
theorem q_cells_ptr (i o : Nat) : cellsOf (.ptr i o) = some [.ptr i o] := by simp only [cellsOf]
theorem q_one_ptr (i o : Nat) : one (.ptr i o) = true := by simp only [one]
theorem q_cells_ep (i g a b : Nat) : cellsOf (.ep i g a b) = some [.ep i g a b] := by simp only [cellsOf]
theorem q_one_ep (i g a b : Nat) : one (.ep i g a b) = true := by simp only [one]
theorem q_cells_sl (i g o l : Nat) : cellsOf (.sl i g o l) = some [.sl i g o l] := by simp only [cellsOf]
theorem q_one_sl (i g o l : Nat) : one (.sl i g o l) = true := by simp only [one]
theorem q_cells_map (i : Nat) : cellsOf (.map i) = some [.map i] := by simp only [cellsOf]
theorem q_one_map (i : Nat) : one (.map i) = true := by simp only [one]
theorem q_cells_rows (n : Nat) (r : List (List V)) : cellsOf (.rows n r) = some [.rows n r] := by simp only [cellsOf]
theorem q_one_rows (n : Nat) (r : List (List V)) : one (.rows n r) = true := by simp only [one]
theorem q_cells_fn (f : Fn) (c : List V) : cellsOf (.fn f c) = some [.fn f c] := by simp only [cellsOf]
theorem q_one_fn (f : Fn) (c : List V) : one (.fn f c) = true := by simp only [one]
theorem q_cells_iface (n : Nat) (u : V) : cellsOf (.iface n u) = some [.iface n u] := by simp only [cellsOf]
theorem q_one_iface (n : Nat) (u : V) : one (.iface n u) = true := by simp only [one]
theorem q_cells_agg (c : List V) : cellsOf (.agg c) = some c := by simp only [cellsOf]
theorem q_one_agg (c : List V) : one (.agg c) = false := by simp only [one]

/-! ### size -/
mutual
def T.size : T → Nat
  | .int _ _ => 0
  | .bool _ => 0
  | .str s => s.length
  | .lst _ rows => rows.length + T.sizeR rows
def T.sizeR : List (List T) → Nat
  | [] => 0
  | r :: rows => T.sizeL r + T.sizeR rows
def T.sizeL : List T → Nat
  | [] => 0
  | t :: ts => t.size + T.sizeL ts
end
theorem sizeL_cons {t : T} {ts : List T} : T.sizeL (t :: ts) = t.size + T.sizeL ts := by simp only [T.sizeL]
theorem sizeL_nil : T.sizeL [] = 0 := by simp only [T.sizeL]
theorem sizeR_cons {t : List T} {ts : List (List T)} : T.sizeR (t :: ts) = T.sizeL t + T.sizeR ts := by simp only [T.sizeR]
theorem sizeR_nil : T.sizeR [] = 0 := by simp only [T.sizeR]
theorem size_int {k : IntKind} {n : Int} : (T.int k n).size = 0 := by simp only [T.size]
theorem size_bool {b : Bool} : (T.bool b).size = 0 := by simp only [T.size]
theorem size_str {s : List UInt8} : (T.str s).size = s.length := by simp only [T.size]
theorem size_lst {n : Nat} {rows : List (List T)} : (T.lst n rows).size = rows.length + T.sizeR rows := by simp only [T.size]
attribute [irreducible] T.size T.sizeR T.sizeL
theorem sizeR_app : ∀ (a b : List (List T)), T.sizeR (a ++ b) = T.sizeR a + T.sizeR b
  | [], _ => by simp [sizeR_nil]
  | r :: a, b => by simp only [List.cons_append, sizeR_cons, sizeR_app a b]; omega
theorem sizeR_step {rows : List (List T)} {k : Nat} {r : List T} (h : rows[k]? = some r) : T.sizeR (rows.take (k + 1)) = T.sizeR (rows.take k) + T.sizeL r := by
  rw [take_of h, sizeR_app]
  simp [sizeR_cons, sizeR_nil]
theorem sizeR_get {rows : List (List T)} {k : Nat} {r : List T} (h : rows[k]? = some r) : T.sizeL r ≤ T.sizeR rows := by
  have := sizeR_app (rows.take (k + 1)) (rows.drop (k + 1))
  rw [List.take_append_drop, sizeR_step h] at this
  omega

/-! ### values that are one's own: every slice a whole object of its own; is: the objects' numbers -/
mutual
def Own (σ : Store) : T → V → List Nat → Prop
  | .int k n, v, is => v = .t (.int k n) ∧ is = []
  | .bool b, v, is => v = .t (.bool b) ∧ is = []
  | .str s, v, is => v = .t (.str s) ∧ is = []
  | .lst sz rows, v, is => 0 < sz ∧ ((rows = [] ∧ is = [] ∧ (v = .nils ∨ v = .rows sz [])) ∨ ∃ id js rs, is = id :: js ∧ v = .sl id rs.length 0 rs.length ∧ σ[id]? = some (.slc sz rs) ∧ OwnR σ rows rs js)
def OwnR (σ : Store) : List (List T) → List (List V) → List Nat → Prop
  | [], rs, is => rs = [] ∧ is = []
  | r :: rows, rs, is => ∃ u us i j, rs = u :: us ∧ is = i ++ j ∧ OwnL σ r u i ∧ OwnR σ rows us j
def OwnL (σ : Store) : List T → List V → List Nat → Prop
  | [], us, is => us = [] ∧ is = []
  | t :: ts, us, is => ∃ u us' i j, us = u :: us' ∧ is = i ++ j ∧ Own σ t u i ∧ OwnL σ ts us' j
end
mutual
theorem Own.frame {σ σ' : Store} : ∀ {t : T} {v : V} {is : List Nat}, Own σ t v is → (∀ i ∈ is, σ'[i]? = σ[i]?) → Own σ' t v is
  | .int _ _, _, _, h, _ => by simpa only [Own] using h
  | .bool _, _, _, h, _ => by simpa only [Own] using h
  | .str _, _, _, h, _ => by simpa only [Own] using h
  | .lst sz rows, v, is, h, k => by
    simp only [Own] at h ⊢
    refine ⟨h.1, h.2.imp id ?_⟩
    rintro ⟨id, js, rs, rfl, rfl, h1, h2⟩
    exact ⟨id, js, rs, rfl, rfl, by rw [k id (by simp)]; exact h1, OwnR.frame h2 fun i hi => k i (by simp [hi])⟩
theorem OwnR.frame {σ σ' : Store} : ∀ {rows : List (List T)} {rs : List (List V)} {is : List Nat}, OwnR σ rows rs is → (∀ i ∈ is, σ'[i]? = σ[i]?) → OwnR σ' rows rs is
  | [], _, _, h, _ => by simpa only [OwnR] using h
  | r :: rows, rs, is, h, k => by
    simp only [OwnR] at h ⊢
    obtain ⟨u, us, i, j, rfl, rfl, h1, h2⟩ := h
    exact ⟨u, us, i, j, rfl, rfl, OwnL.frame h1 fun x hx => k x (by simp [hx]), OwnR.frame h2 fun x hx => k x (by simp [hx])⟩
theorem OwnL.frame {σ σ' : Store} : ∀ {ts : List T} {us : List V} {is : List Nat}, OwnL σ ts us is → (∀ i ∈ is, σ'[i]? = σ[i]?) → OwnL σ' ts us is
  | [], _, _, h, _ => by simpa only [OwnL] using h
  | t :: ts, us, is, h, k => by
    simp only [OwnL] at h ⊢
    obtain ⟨u, us', i, j, rfl, rfl, h1, h2⟩ := h
    exact ⟨u, us', i, j, rfl, rfl, Own.frame h1 fun x hx => k x (by simp [hx]), OwnL.frame h2 fun x hx => k x (by simp [hx])⟩
end
mutual
theorem Own.sees {σ : Store} : ∀ {t : T} {v : V} {is : List Nat}, Own σ t v is → Sees σ t v
  | .int _ _, _, _, h => by simp only [Own] at h; simpa only [Sees] using h.1
  | .bool _, _, _, h => by simp only [Own] at h; simpa only [Sees] using h.1
  | .str _, _, _, h => by simp only [Own] at h; simpa only [Sees] using h.1
  | .lst sz rows, v, is, h => by
    simp only [Own] at h
    simp only [Sees]
    obtain ⟨hp, ⟨rfl, rfl, rfl | rfl⟩ | ⟨id, js, rs, rfl, rfl, h1, h2⟩⟩ := h
    · exact ⟨[], by simp only [rowsOf], by simp [SeesRows], hp⟩
    · exact ⟨[], by simp [rowsOf], by simp [SeesRows], hp⟩
    · exact ⟨rs, q_rows_whole sz id _ _ _ h1 rfl rfl, OwnR.sees h2, hp⟩
theorem OwnR.sees {σ : Store} : ∀ {rows : List (List T)} {rs : List (List V)} {is : List Nat}, OwnR σ rows rs is → SeesRows σ rows rs
  | [], _, _, h => by simp only [OwnR] at h; simpa only [SeesRows] using h.1
  | r :: rows, rs, is, h => by
    simp only [OwnR] at h
    simp only [SeesRows]
    obtain ⟨u, us, i, j, rfl, rfl, h1, h2⟩ := h
    exact ⟨u, us, rfl, OwnL.sees h1, OwnR.sees h2⟩
theorem OwnL.sees {σ : Store} : ∀ {ts : List T} {us : List V} {is : List Nat}, OwnL σ ts us is → SeesL σ ts us
  | [], _, _, h => by simp only [OwnL] at h; simpa only [SeesL] using h.1
  | t :: ts, us, is, h => by
    simp only [OwnL] at h
    simp only [SeesL]
    obtain ⟨u, us', i, j, rfl, rfl, h1, h2⟩ := h
    exact ⟨u, us', rfl, Own.sees h1, OwnL.sees h2⟩
end
mutual
theorem Own.lt {σ : Store} : ∀ {t : T} {v : V} {is : List Nat}, Own σ t v is → ∀ i ∈ is, i < σ.length
  | .int _ _, _, _, h => by simp only [Own] at h; obtain ⟨_, rfl⟩ := h; simp
  | .bool _, _, _, h => by simp only [Own] at h; obtain ⟨_, rfl⟩ := h; simp
  | .str _, _, _, h => by simp only [Own] at h; obtain ⟨_, rfl⟩ := h; simp
  | .lst sz rows, v, is, h => by
    simp only [Own] at h
    obtain ⟨hp, ⟨rfl, rfl, _⟩ | ⟨id, js, rs, rfl, rfl, h1, h2⟩⟩ := h
    · simp
    · intro i hi
      rcases List.mem_cons.1 hi with rfl | hi
      · exact (List.getElem?_eq_some_iff.1 h1).1
      · exact OwnR.lt h2 i hi
theorem OwnR.lt {σ : Store} : ∀ {rows : List (List T)} {rs : List (List V)} {is : List Nat}, OwnR σ rows rs is → ∀ i ∈ is, i < σ.length
  | [], _, _, h => by simp only [OwnR] at h; obtain ⟨_, rfl⟩ := h; simp
  | r :: rows, rs, is, h => by
    simp only [OwnR] at h
    obtain ⟨u, us, i, j, rfl, rfl, h1, h2⟩ := h
    intro x hx
    rcases List.mem_append.1 hx with hx | hx
    · exact OwnL.lt h1 x hx
    · exact OwnR.lt h2 x hx
theorem OwnL.lt {σ : Store} : ∀ {ts : List T} {us : List V} {is : List Nat}, OwnL σ ts us is → ∀ i ∈ is, i < σ.length
  | [], _, _, h => by simp only [OwnL] at h; obtain ⟨_, rfl⟩ := h; simp
  | t :: ts, us, is, h => by
    simp only [OwnL] at h
    obtain ⟨u, us', i, j, rfl, rfl, h1, h2⟩ := h
    intro x hx
    rcases List.mem_append.1 hx with hx | hx
    · exact Own.lt h1 x hx
    · exact OwnL.lt h2 x hx
end
theorem OwnR.app {σ : Store} : ∀ {a : List (List T)} {us : List (List V)} {is : List Nat} {b : List (List T)} {vs : List (List V)} {js : List Nat}, OwnR σ a us is → OwnR σ b vs js → OwnR σ (a ++ b) (us ++ vs) (is ++ js)
  | [], _, _, _, _, _, h, k => by simp only [OwnR] at h; obtain ⟨rfl, rfl⟩ := h; exact k
  | r :: a, us, is, b, vs, js, h, k => by
    simp only [OwnR] at h
    obtain ⟨u, us', i, j, rfl, rfl, h1, h2⟩ := h
    simp only [List.cons_append, OwnR]
    exact ⟨u, _, i, j ++ js, rfl, by simp, h1, OwnR.app h2 k⟩
theorem OwnR.one {σ : Store} {r : List T} {u : List V} {is : List Nat} (h : OwnL σ r u is) : OwnR σ [r] [u] is := by
  simp only [OwnR]
  exact ⟨u, [], is, [], rfl, by simp, h, rfl, rfl⟩
theorem OwnR.len {σ : Store} : ∀ {a : List (List T)} {us : List (List V)} {is : List Nat}, OwnR σ a us is → us.length = a.length
  | [], _, _, h => by simp only [OwnR] at h; obtain ⟨rfl, rfl⟩ := h; rfl
  | r :: a, us, is, h => by
    simp only [OwnR] at h
    obtain ⟨u, us', i, j, rfl, rfl, h1, h2⟩ := h
    simp [OwnR.len h2]
theorem OwnL.app {σ : Store} : ∀ {a : List T} {us : List V} {is : List Nat} {b : List T} {vs : List V} {js : List Nat}, OwnL σ a us is → OwnL σ b vs js → OwnL σ (a ++ b) (us ++ vs) (is ++ js)
  | [], _, _, _, _, _, h, k => by simp only [OwnL] at h; obtain ⟨rfl, rfl⟩ := h; exact k
  | r :: a, us, is, b, vs, js, h, k => by
    simp only [OwnL] at h
    obtain ⟨u, us', i, j, rfl, rfl, h1, h2⟩ := h
    simp only [List.cons_append, OwnL]
    exact ⟨u, _, i, j ++ js, rfl, by simp, h1, OwnL.app h2 k⟩
end Go.Ab
