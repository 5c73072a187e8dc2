/- Lists of one's own that grow, over stores known only by what they keep. Conditions: none (a library of lemmas). -/
import Derived.Test.YtleilaipdhmgeaaAbZb
set_option linter.unusedSimpArgs false
set_option linter.unusedVariables false
set_option linter.defProp false
namespace Go.Ab
def noRows (v : V) : Prop := ∀ m x, v ≠ .rows m x
theorem noRows_nils : noRows .nils := fun _ _ h => by cases h
theorem noRows_sl {i g o l : Nat} : noRows (.sl i g o l) := fun _ _ h => by cases h
theorem Wi.nodup {is : List Nat} {a b : Nat} (w : Wi is a b) : is.Nodup := w.1
theorem wi_of {is : List Nat} {a b : Nat} (h : is.Nodup) (k : ∀ i ∈ is, a ≤ i ∧ i < b) : Wi is a b := ⟨h, k⟩
theorem Kb.le {js : List Nat} {s s' : Store} (h : Kp s s') : Kb js s s' := fun j hj _ => h j hj
theorem kp_app2 {s s' τ : Store} (h : Kp s s') : Kp s (s' ++ τ) := fun j hj => by
  have := h j hj
  have hl : j < s'.length := by
    rcases Nat.lt_or_ge j s'.length with h' | h'
    · exact h'
    · rw [List.getElem?_eq_none h', List.getElem?_eq_getElem hj] at this; cases this
  rw [List.getElem?_append_left hl]; exact this
/-- A row of one's own is put behind a list of one's own. -/
theorem app_own {n bys a : Nat} {s : Store} {rows : List (List T)} {r : List T} {v : V} {us : List V} {is js : List Nat} {K : Tok → V → Store → Prop}
    (ho : Own s (.lst n rows) v is) (hv : noRows v) (hw : Wi is a s.length) (hr : OwnL s r us js) (hj : Wi js a s.length) (hd : ∀ i ∈ is, i ∉ js) (ha : a ≤ s.length) (hb : (rows.length + 1) * bys ≤ maxBy) (hm : rows.length + 1 ≤ 9223372036854775807)
    (hk : ∀ v' s' is', s.length ≤ s'.length → Kb is s s' → Own s' (.lst n (rows ++ [r])) v' is' → noRows v' → Wi is' a s'.length → K .go v' s') : evAppend n bys s [us] v K := by
  simp only [Own] at ho
  obtain ⟨hp, ⟨rfl, rfl, rfl | rfl⟩ | ⟨id, js0, rs, rfl, rfl, h1, h2⟩⟩ := ho
  · simp only [evAppend, List.length_cons, List.length_nil]
    refine ⟨by simpa using hb, by omega, hk _ _ (s.length :: js) (by simp) (Kb.le (Kp.app _ _)) ?_ noRows_sl ?_⟩
    · simp only [Own, List.nil_append]
      refine ⟨hp, .inr ⟨s.length, js, [us], rfl, by simp, by simp, OwnR.one (hr.frame fun i hi => ?_)⟩⟩
      exact List.getElem?_append_left (hj.2 i hi).2
    · refine ⟨List.nodup_cons.2 ⟨fun h => by have := hj.2 _ h; omega, hj.1⟩, fun i hi => ?_⟩
      simp only [List.length_append, List.length_cons, List.length_nil]
      rcases List.mem_cons.1 hi with rfl | hi
      · omega
      · have := hj.2 i hi; omega
  · exact (hv _ _ rfl).elim
  · have hlen := h2.len
    have hid := hw.2 id (by simp)
    simp only [evAppend, h1, onSlc, List.length_cons, List.length_nil]
    refine ⟨trivial, trivial, trivial, trivial, by rw [hlen]; exact hb, by omega, hk _ _ (id :: (js0 ++ js)) (by simp) ?_ ?_ noRows_sl ?_⟩
    · intro j hj1 hj2
      exact List.getElem?_set_ne (fun e => hj2 (by rw [← e]; simp))
    · simp only [Own]
      refine ⟨hp, .inr ⟨id, js0 ++ js, rs ++ [us], rfl, by simp, by simp [hid.2], OwnR.app (h2.frame fun i hi => ?_) (OwnR.one (hr.frame fun i hi => ?_))⟩⟩
      · refine List.getElem?_set_ne (fun e => ?_)
        subst e
        exact (List.nodup_cons.1 hw.1).1 hi
      · refine List.getElem?_set_ne (fun e => ?_)
        subst e
        exact hd id (by simp) hi
    · have hn := List.nodup_cons.1 hw.1
      refine ⟨List.nodup_cons.2 ⟨fun h => ?_, List.nodup_append.2 ⟨hn.2, hj.1, fun x hx y hy he => hd x (by simp [hx]) (he ▸ hy)⟩⟩, fun i hi => ?_⟩
      · rcases List.mem_append.1 h with h | h
        · exact hn.1 h
        · exact hd id (by simp) h
      · simp only [List.length_set]
        rcases List.mem_cons.1 hi with rfl | hi
        · exact hid
        · rcases List.mem_append.1 hi with hi | hi
          · exact hw.2 i (by simp [hi])
          · exact hj.2 i hi
/-- A list of flat rows that was put into an object at the store's end. -/
theorem own_flat {s : Store} {n : Nat} {rows : List (List T)} (hp : 0 < n) (h : ∀ r ∈ rows, ∀ t ∈ r, scalar t = true) {m : Nat} (hm : m = rows.length) : Own (s ++ [tObj n rows]) (.lst n rows) (.sl s.length m 0 m) [s.length] := by
  subst hm
  exact own_rows hp h (by simp)
theorem wi_one (a : Nat) : Wi [a] a (a + 1) := ⟨by simp, fun i hi => by simp at hi; omega⟩
/-- A loop that puts rows behind a list of one's own, from a store s0 on. -/
structure Ga where
  k : Nat
  v : V
  s : Store
  is : List Nat
def OI (s0 : Store) (n : Nat) (rows : List (List T)) (g : Ga) : Prop := g.k ≤ rows.length ∧ s0.length ≤ g.s.length ∧ Kp s0 g.s ∧ Own g.s (.lst n (rows.take g.k)) g.v g.is ∧ noRows g.v ∧ Wi g.is s0.length g.s.length
theorem Kp.refl (s : Store) : Kp s s := fun _ _ => rfl
theorem Kp.trans {s s' s'' : Store} (h : Kp s s') (hl : s.length ≤ s'.length) (k : Kp s' s'') : Kp s s'' := fun j hj => (k j (by omega)).trans (h j hj)
theorem OI.nil {s : Store} {n : Nat} {rows : List (List T)} (hp : 0 < n) : OI s n rows ⟨0, .nils, s, []⟩ :=
  ⟨Nat.zero_le _, Nat.le_refl _, Kp.refl s, by simp [Own, hp], noRows_nils, Wi.nil⟩
theorem OI.lit {s : Store} {n : Nat} {rows : List (List T)} (hp : 0 < n) : OI s n rows ⟨0, .sl s.length 0 0 0, s ++ [.slc n []], [s.length]⟩ := by
  refine ⟨Nat.zero_le _, by simp, Kp.app _ _, ?_, noRows_sl, Wi.cons (Wi.nil (a := s.length + 1)) (by omega) (by omega) (by simp)⟩
  simp only [List.take_zero, Own]
  exact ⟨hp, .inr ⟨s.length, [], [], rfl, rfl, by simp, by simp [OwnR]⟩⟩
theorem kp_split {s s' : Store} (h : Kp s s') (hl : s.length ≤ s'.length) : s' = s ++ s'.drop s.length := by
  apply List.ext_getElem?
  intro i
  rcases Nat.lt_or_ge i s.length with hi | hi
  · rw [List.getElem?_append_left hi, h i hi]
  · rw [List.getElem?_append_right hi, List.getElem?_drop, show s.length + (i - s.length) = i by omega]
theorem Kp.set {s s' : Store} (h : Kp s s') {p : Nat} {o : Go.Ab.Obj} (hp : s.length ≤ p) : Kp s (s'.set p o) := fun j hj => by
  rw [List.getElem?_set_ne (by omega)]; exact h j hj
theorem Kp.kb {s0 s1 s2 : Store} {is : List Nat} {b : Nat} (h : Kp s0 s1) (hl : s0.length ≤ s1.length) (k : Kb is s1 s2) (w : Wi is s0.length b) : Kp s0 s2 := fun j hj =>
  (k j (by omega) (fun hm => by have := w.2 j hm; omega)).trans (h j hj)
/-- A round's end of such a loop. -/
theorem OI.next {s0 s1 s2 : Store} {n k : Nat} {rows : List (List T)} {r : List T} {v' : V} {is is' : List Nat} (hk : Kp s0 s1) (hl : s0.length ≤ s1.length) (hx : rows[k]? = some r) (kb : Kb is s1 s2) {b : Nat} (w : Wi is s0.length b) (h12 : s1.length ≤ s2.length)
    (ho : Own s2 (.lst n (rows.take k ++ [r])) v' is') (hv : noRows v') (hw : Wi is' s0.length s2.length) : OI s0 n rows ⟨k + 1, v', s2, is'⟩ := by
  have := (List.getElem?_eq_some_iff.1 hx).1
  refine ⟨this, ?_, hk.kb hl kb w, by rw [take_of hx]; exact ho, hv, hw⟩
  show s0.length ≤ s2.length
  omega
theorem set2_self {l : Store} {i j : Nat} {a b : Go.Ab.Obj} (h : i < l.length) : ((l.set j a).set i b)[i]? = some b := List.getElem?_set_self (by simpa using h)
theorem wi_join {i j : List Nat} {a b c d a' d' : Nat} (h : Wi i a b) (k : Wi j c d) (h1 : b ≤ c) (h2 : a' ≤ a) (h3 : b ≤ d') (h4 : a' ≤ c) (h5 : d ≤ d') : Wi (i ++ j) a' d' := by
  refine ⟨List.nodup_append.2 ⟨h.1, k.1, fun x hx y hy he => ?_⟩, fun x hx => ?_⟩
  · have := h.2 x hx
    have := k.2 y hy
    omega
  · rcases List.mem_append.1 hx with hx | hx
    · have := h.2 x hx; omega
    · have := k.2 x hx; omega
theorem set_own {s : Store} {p : Nat} {o : Go.Ab.Obj} {t : T} {u : V} {is : List Nat} (h : Own s t u is) (hp : p ∉ is) : Own (s.set p o) t u is :=
  h.frame fun i hi => List.getElem?_set_ne (fun e => hp (by rw [e]; exact hi))
theorem OwnL.get {σ : Store} : ∀ {ts : List T} {us : List V} {is : List Nat} {k : Nat} {t : T}, OwnL σ ts us is → ts[k]? = some t → ∃ u js, us[k]? = some u ∧ Own σ t u js ∧ js.Nodup = js.Nodup ∧ (∀ j ∈ js, j ∈ is) ∧ (is.Nodup → js.Nodup)
  | [], _, _, _, _, _, h => by simp at h
  | t :: ts, us, is, k, t', h, hk => by
    simp only [OwnL] at h
    obtain ⟨u, us', i, j, rfl, rfl, h1, h2⟩ := h
    cases k with
    | zero =>
      simp only [List.getElem?_cons_zero, Option.some.injEq] at hk
      subst hk
      exact ⟨u, i, rfl, h1, rfl, fun x hx => by simp [hx], fun hn => (List.nodup_append.1 hn).1⟩
    | succ k =>
      obtain ⟨v, js, g1, g2, g3, g4, g5⟩ := h2.get (k := k) (by simpa using hk)
      exact ⟨v, js, by simpa using g1, g2, g3, fun x hx => by simp [g4 x hx], fun hn => g5 (List.nodup_append.1 hn).2.1⟩
end Go.Ab
