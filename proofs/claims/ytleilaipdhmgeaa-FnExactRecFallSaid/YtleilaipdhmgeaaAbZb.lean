/- Calls in a law whose results hold memory: the store behind a call is one we know only by what it keeps. Conditions: none (a library of lemmas). -/
import Derived.Test.YtleilaipdhmgeaaAbZa
set_option linter.unusedSimpArgs false
set_option linter.unusedVariables false
set_option linter.defProp false
namespace Go.Ab
/-- What a store keeps of another one. -/
def Kp (s s' : Store) : Prop := ∀ j, j < s.length → s'[j]? = s[j]?
theorem Kp.app (s τ : Store) : Kp s (s ++ τ) := fun j hj => List.getElem?_append_left hj
theorem Kp.box {s s' : Store} {p : Nat} {o : Go.Ab.Obj} (k : Kp s s') (e : s[p]? = some o) : s'[p]? = some o := (k p (List.getElem?_eq_some_iff.1 e).1).trans e
theorem Kp.own {s s' : Store} (k : Kp s s') {t : T} {u : V} {is : List Nat} (h : Own s t u is) : Own s' t u is := h.frame fun i hi => k i (h.lt i hi)
theorem Kp.ownL {s s' : Store} (k : Kp s s') {t : List T} {u : List V} {is : List Nat} (h : OwnL s t u is) : OwnL s' t u is := h.frame fun i hi => k i (h.lt i hi)
/-- All but some. -/
def Kb (js : List Nat) (s s' : Store) : Prop := ∀ j, j < s.length → j ∉ js → s'[j]? = s[j]?
theorem Kb.box {js : List Nat} {s s' : Store} {p : Nat} {o : Go.Ab.Obj} (k : Kb js s s') (e : s[p]? = some o) (hp : p ∉ js) : s'[p]? = some o := (k p (List.getElem?_eq_some_iff.1 e).1 hp).trans e
theorem Kb.own {js : List Nat} {s s' : Store} (k : Kb js s s') {t : T} {u : V} {is : List Nat} (h : Own s t u is) (hd : ∀ i ∈ is, i ∉ js) : Own s' t u is := h.frame fun i hi => k i (h.lt i hi) (hd i hi)
theorem Kb.ownL {js : List Nat} {s s' : Store} (k : Kb js s s') {t : List T} {u : List V} {is : List Nat} (h : OwnL s t u is) (hd : ∀ i ∈ is, i ∉ js) : OwnL s' t u is := h.frame fun i hi => k i (h.lt i hi) (hd i hi)
/-- Not in an interval's numbers. -/
theorem wi_out {js : List Nat} {a b p : Nat} (w : Wi js a b) (h : p < a ∨ b ≤ p) : p ∉ js := fun hp => by
  have := w.2 p hp
  omega
theorem wi_apart {is js : List Nat} {a b c d : Nat} (w : Wi is a b) (v : Wi js c d) (h : b ≤ c ∨ d ≤ a) : ∀ i ∈ is, i ∉ js := fun i hi hj => by
  have h1 := w.2 i hi
  have h2 := v.2 i hj
  omega

section
variable {P : Program} {f : FuncId} {us vs : List V} {s : Store} {K : Tok → V → Store → Prop}
theorem call_new {t : T} (h : ACalls P f us s (ToR t s)) (hk : ∀ u s' is, s.length ≤ s'.length → Kp s s' → Own s' t u is → Wi is s.length s'.length → K .go u s') : callV P s (some (.fn (.func f) [])) (some us) K := by
  refine call_by (by rw [List.append_nil]; exact h) ?_
  rintro r σ' ⟨τ, is, rfl, h1, h2⟩
  exact hk _ _ is (by simp) (Kp.app _ _) h1 h2
theorem call_newL {ts : List T} (h : ACalls P f us s (ToLR ts s)) (hk : ∀ u s' is, s.length ≤ s'.length → Kp s s' → OwnL s' ts u is → Wi is s.length s'.length → K .go (.agg u) s') : callV P s (some (.fn (.func f) [])) (some us) K := by
  refine call_by (by rw [List.append_nil]; exact h) ?_
  rintro r σ' ⟨us, τ, is, rfl, rfl, h1, h2⟩
  exact hk _ _ is (by simp) (Kp.app _ _) h1 h2
end
theorem take_all {us : List V} {n : Nat} (h : us.length = n) : us.take n = us := List.take_of_length_le (by omega)
theorem ones_t : ∀ ts : List T, ((ts.map V.t).all Go.Ab.one) = true
  | [] => rfl
  | t :: ts => by simp only [List.map_cons, List.all_cons, q_one_t, ones_t ts, Bool.and_self]
theorem len_t {ts : List T} {n : Nat} (h : ts.length = n) : (ts.map V.t).length = n := by simpa using h
/-- A struct put over a variable's cells, whole. -/
theorem put_whole {cs us : List V} {n : Nat} (h : us.length = n) (hc : cs.length = n) : putAt cs 0 us = us := by
  unfold putAt
  rw [List.take_zero, Nat.zero_add, h, List.drop_of_length_le (by omega), List.nil_append, List.append_nil]
theorem mk_pos {mt : Nat → List UInt8} {k : Nat} {t : T} (h : 1 ≤ k) : 1 ≤ (T.mk mt k t).2 := Nat.le_trans h mk_le
theorem mkVL_le {mt : Nat → List UInt8} : ∀ {ts : List T} {k : Nat}, k ≤ (T.mkVL mt k ts).2
  | [], k => by rw [mkVL_nil]; exact Nat.le_refl _
  | t :: ts, k => by
    rw [mkVL_cons]
    refine Nat.le_trans ?_ (mkVL_le (ts := ts))
    cases t with
    | lst sz rows => simp only [T.mkV]; exact mk_le
    | _ => simp only [T.mkV]; exact Nat.le_refl _
theorem mkVL_pos {mt : Nat → List UInt8} {k : Nat} {ts : List T} (h : 1 ≤ k) : 1 ≤ (T.mkVL mt k ts).2 := Nat.le_trans h mkVL_le
end Go.Ab
