/- Teams that are ok. Conditions: none. -/
import Derived.Test.YtcjchimenfadkaaDoorNamesG
import Derived.Test.YtcjchimenfadkaaDoorAb4
import Derived.KernelRfl
set_option linter.unusedSimpArgs false
set_option linter.unusedVariables false
set_option linter.defProp false
open Go Go.Ab
set_option maxHeartbeats 2000000
namespace Go.Proofs.YtcjchimenfadkaaDoor.W
theorem less_irr : ∀ a : List UInt8, Op.bytesLess a a = false
  | [] => rfl
  | x :: a => by simp [Op.bytesLess, less_irr a]
theorem less_trans : ∀ {a b c : List UInt8}, Op.bytesLess a b = true → Op.bytesLess b c = true → Op.bytesLess a c = true
  | [], b, c => by
    intro h1 h2
    cases b <;> cases c <;> simp_all [Op.bytesLess]
  | x :: a, b, c => by
    intro h1 h2
    cases b with
    | nil => simp [Op.bytesLess] at h1
    | cons y b =>
      cases c with
      | nil => simp [Op.bytesLess] at h2
      | cons z c =>
        simp only [Op.bytesLess, Bool.or_eq_true, Bool.and_eq_true, decide_eq_true_eq, beq_iff_eq] at h1 h2 ⊢
        rcases h1 with h1 | ⟨h1, h1'⟩ <;> rcases h2 with h2 | ⟨h2, h2'⟩
        · exact .inl (UInt8.lt_trans h1 h2)
        · subst h2; exact .inl h1
        · subst h1; exact .inl h2
        · subst h1; subst h2; exact .inr ⟨rfl, less_trans h1' h2'⟩
def noN (name : List UInt8) (t : GateTeam) : Bool := !(t.Name == name)
def hasT (l : List GateTeam) (name : List UInt8) : Bool := !(l.all (noN name))
def overOf (name : List UInt8) : List GateTeam → List UInt8
  | [] => []
  | t :: ts => if t.Name = name then t.Over else overOf name ts
def findT (name : List UInt8) : List GateTeam → Nat → Int
  | [], _ => -1
  | t :: ts, k => if t.Name = name then k else findT name ts (k + 1)
theorem find_over (name : List UInt8) : ∀ (l : List GateTeam) (k : Nat), (findT name l k = -1 ∧ overOf name l = [] ∧ hasT l name = false) ∨ ∃ i t, l[i]? = some t ∧ findT name l k = ((k + i : Nat) : Int) ∧ t.Over = overOf name l ∧ hasT l name = true
  | [], k => .inl ⟨rfl, rfl, rfl⟩
  | t :: ts, k => by
    by_cases h : t.Name = name
    · exact .inr ⟨0, t, rfl, by simp [findT, h], by simp [overOf, h], by simp [hasT, noN, h]⟩
    · rcases find_over name ts (k + 1) with ⟨h1, h2, h4⟩ | ⟨i, u, h1, h2, h3, h4⟩
      · exact .inl ⟨by simp [findT, h, h1], by simp [overOf, h, h2], by simp only [hasT, List.all_cons, Bool.not_eq_false'] at h4 ⊢; rw [h4]; simp [noN, h]⟩
      · exact .inr ⟨i + 1, u, by simpa using h1, by simp only [findT, h, if_false, h2]; congr 1; omega, by simp [overOf, h, h3], by simp only [hasT, List.all_cons, Bool.not_eq_true'] at h4 ⊢; rw [h4]; simp⟩
def prevS (l : List GateTeam) (i : Nat) : List UInt8 := ((l[i - 1]?).map GateTeam.Name).getD []
def firstP (l : List GateTeam) (x : GateTeam × Nat) : Bool := nameOk x.1.Name && !(decide (x.2 > 0) && !Op.bytesLess (prevS l x.2) x.1.Name) && !(!(x.1.Over == []) && !hasT l x.1.Over)
def climb (l : List GateTeam) : Nat → List UInt8 → List UInt8
  | 0, a => a
  | n + 1, a => if a = [] then [] else climb l n (overOf a l)
theorem climb_nil (l : List GateTeam) : ∀ n, climb l n [] = []
  | 0 => rfl
  | n + 1 => by simp [climb]
def teamP (l : List GateTeam) (x : GateTeam × Nat) : Bool := firstP l x && (climb l 5 x.1.Name == [])
def teamsOk (l : List GateTeam) : Bool := decide (l.length ≤ 12) && l.zipIdx.all (teamP l)
def deepP (l : List GateTeam) (t : GateTeam) : Bool := climb l 4 t.Over == []
def teamsOkI (l : List GateTeam) : Bool := decide (l.length ≤ 12) && l.zipIdx.all (firstP l) && l.all (deepP l)
theorem all_zip {α : Type} {l : List α} {p : α × Nat → Bool} : l.zipIdx.all p = true ↔ ∀ i x, l[i]? = some x → p (x, i) = true := by
  rw [List.all_eq_true]
  constructor
  · intro h i x hx
    exact h (x, i) (List.mem_of_getElem? (zip_at hx))
  · rintro h ⟨x, i⟩ hx
    exact h i x (by simpa using List.mem_zipIdx_iff_getElem?.1 hx)
theorem first_parts {l : List GateTeam} {t : GateTeam} {i : Nat} (h : firstP l (t, i) = true) : t.Name ≠ [] ∧ (i > 0 → Op.bytesLess (prevS l i) t.Name = true) ∧ (t.Over ≠ [] → hasT l t.Over = true) := by
  simp only [firstP, Bool.and_eq_true, Bool.not_eq_true', Bool.and_eq_false_iff, decide_eq_false_iff_not, Bool.not_eq_false', beq_iff_eq] at h
  obtain ⟨⟨h1, h2⟩, h3⟩ := h
  refine ⟨fun he => ?_, fun hi => ?_, fun ho => ?_⟩
  · rw [he] at h1; simp [nameOk, wi] at h1
  · rcases h2 with h2 | h2
    · exact absurd hi h2
    · exact h2
  · rcases h3 with h3 | h3
    · exact absurd h3 ho
    · exact h3
theorem asc {l : List GateTeam} (h : ∀ i t, l[i]? = some t → firstP l (t, i) = true) : ∀ (d j : Nat) (s t : GateTeam), l[j]? = some s → l[j + d + 1]? = some t → Op.bytesLess s.Name t.Name = true
  | 0, j, s, t, hs, ht => by
    have := (first_parts (h _ t ht)).2.1 (by omega)
    simpa [prevS, hs] using this
  | d + 1, j, s, t, hs, ht => by
    have hlt := (List.getElem?_eq_some_iff.1 ht).1
    obtain ⟨u, hu⟩ : ∃ u, l[j + d + 1]? = some u := ⟨l[j + d + 1]'(by omega), by simp [show j + d + 1 < l.length by omega]⟩
    have h1 := asc h d j s u hs hu
    have h2 := (first_parts (h _ t ht)).2.1 (by omega)
    have h3 : prevS l (j + (d + 1) + 1) = u.Name := by simp [prevS, show j + (d + 1) + 1 - 1 = j + d + 1 by omega, hu]
    rw [h3] at h2
    exact less_trans h1 h2
theorem over_first : ∀ {m : List GateTeam} {i : Nat} {t : GateTeam}, m[i]? = some t → (∀ j s, j < i → m[j]? = some s → s.Name ≠ t.Name) → overOf t.Name m = t.Over
  | [], i, t, h, _ => by simp at h
  | s :: m, 0, t, h, _ => by
    simp only [List.getElem?_cons_zero, Option.some.injEq] at h
    subst h; simp [overOf]
  | s :: m, i + 1, t, h, k => by
    have h0 := k 0 s (by omega) rfl
    simp only [overOf, h0, if_false]
    exact over_first (by simpa using h) fun j u hj hu => k (j + 1) u (by omega) (by simpa using hu)
theorem over_self {l : List GateTeam} (h : ∀ i t, l[i]? = some t → firstP l (t, i) = true) {i : Nat} {t : GateTeam} (ht : l[i]? = some t) : overOf t.Name l = t.Over := by
  refine over_first ht fun j s hj hs he => ?_
  have := asc h (i - j - 1) j s t hs (by rw [show j + (i - j - 1) + 1 = i by omega]; exact ht)
  rw [he, less_irr] at this
  cases this
theorem teams_eq (l : List GateTeam) : teamsOkI l = teamsOk l := by
  rw [Bool.eq_iff_iff]
  simp only [teamsOkI, teamsOk, Bool.and_eq_true, all_zip, teamP]
  have key : (∀ (i : Nat) (t : GateTeam), l[i]? = some t → firstP l (t, i) = true) → ∀ (i : Nat) (t : GateTeam), l[i]? = some t → climb l 5 t.Name = climb l 4 t.Over := by
    intro h i t ht
    rw [climb, if_neg (first_parts (h i t ht)).1, over_self h ht]
  constructor
  · rintro ⟨⟨h1, h2⟩, h3⟩
    refine ⟨h1, fun i t ht => ⟨h2 i t ht, ?_⟩⟩
    rw [key h2 i t ht]
    exact List.all_eq_true.1 h3 t (List.mem_of_getElem? ht)
  · rintro ⟨h1, h2⟩
    have h2' := fun i t ht => (h2 i t ht).1
    refine ⟨⟨h1, h2'⟩, ?_⟩
    rw [List.all_eq_true]
    intro t ht
    obtain ⟨i, hi, rfl⟩ := List.getElem_of_mem ht
    have := (h2 i l[i] (by simp [hi])).2
    rw [key h2' i l[i] (by simp [hi])] at this
    exact this

def c_spec_l4Team : C := (.seq (.ops [⟨(some 4), none, (.mv (.c (.t (.bool false))))⟩]) (.seq (.seq (.ops [⟨(some 5), none, (.mv (.c (.t (.int .i64 0))))⟩]) (.block 0 (.loop (.seq (.seq (.ops [⟨(some 6), none, (.mv (.t 5))⟩, ⟨(some 7), none, (.mv (.t 0))⟩, ⟨(some 8), none, (.len false (.t 7))⟩, ⟨(some 9), none, (.bin .lss (.t 6) (.t 8))⟩]) (.cond (.t 9) .skip (.exit 0))) (.seq (.block 1 (.seq (.ops [⟨(some 12), none, (.mv (.t 0))⟩, ⟨(some 13), none, (.mv (.t 5))⟩, ⟨(some 14), none, (.indexAddr 2 (.t 12) (.t 13))⟩, ⟨(some 15), none, (.fieldAddr 0 (.t 14))⟩, ⟨(some 16), none, (.load none (.t 15))⟩, ⟨(some 17), none, (.mv (.t 1))⟩, ⟨(some 18), none, (.bin .eql (.t 16) (.t 17))⟩]) (.cond (.t 18) (.seq (.ops [⟨(some 4), none, (.mv (.c (.t (.bool true))))⟩]) .ret) .skip))) (.ops [⟨(some 10), none, (.mv (.t 5))⟩, ⟨(some 11), none, (.bin .add (.t 10) (.c (.t (.int .i64 1))))⟩, ⟨(some 5), none, (.mv (.t 11))⟩])))))) (.seq (.ops [⟨(some 4), none, (.mv (.c (.t (.bool false))))⟩]) .ret)))
theorem k_spec_l4Team : comp Tryd.prog 19 (Tryd.f105.body.getD .skip) = some c_spec_l4Team := by kernel_rfl

theorem spec_l4Team (l : List GateTeam) (hl : l.length ≤ 1048576) (name : List UInt8)  (σ : Store) : ACalls Tryd.prog 105 [.t (tGateTeamS l), .t (.str (name))] σ fun rr σ' => rr = .t (.bool (hasT l name)) ∧ σ' = σ := by
  refine acalls_of Tryd.func105 (by decide +kernel) (code := Tryd.f105.body.getD .skip) (n := 19) (c := c_spec_l4Team) (rs := [(.tmp 4)]) rfl rfl k_spec_l4Team (by kernel_rfl) (by simp) (fun hσ => ?_)
  have hh : True := trivial
  have fin : ∀ {u : V} {τ : Store}, u = .t (.bool (hasT l name)) → u.lt σ.length = true → retV σ.length (fun rr σ' => rr = .t (.bool (hasT l name)) ∧ σ' = σ) (σ ++ τ) (some [u]) := fun h h2 => ret_same rfl hσ h2 ⟨h, rfl⟩
  have fin0 : ∀ {u : V}, u = .t (.bool (hasT l name)) → retV σ.length (fun rr σ' => rr = .t (.bool (hasT l name)) ∧ σ' = σ) σ (some [u]) := fun h => ret_same0 rfl ⟨h, rfl⟩
  simp -implicitDefEqProofs only [c_spec_l4Team, tGateTeamS, List.length_map, S0, S1, S2, S3, S4, S5, S6, S7, S8, S9, S10, S11, S12, S13, S14, S15, S16, S17, opv, opvs, eget, env0, setD, lenStr, lenSl, isNilP, isNilS, putAt, if_true, if_false, reduceCtorEq, Nat.reduceLeDiff, Nat.reduceEqDiff, Nat.reduceSub, Nat.reduceMul, Nat.reduceAdd]
  refine loop_p [5, 0, 1] [0, 1] (fun k : Nat => [(5, .t (.int .i64 (k : Nat)))]) (fun k => k ≤ (l).length ∧ ((l).take k).all (noN name) = true) (fun k => (l).length - k) 0 (by simp) ⟨Nat.zero_le _, rfl⟩ rfl ?_
  rintro k ⟨hk, hall⟩
  simp -implicitDefEqProofs only [keep, List.length_map, S0, S1, S2, S3, S4, S5, S6, S7, S8, S9, S10, S11, S12, S13, S14, S15, S16, S17, opv, opvs, eget, env0, setD, lenStr, lenSl, isNilP, isNilS, putAt, if_true, if_false, reduceCtorEq, Nat.reduceLeDiff, Nat.reduceEqDiff, Nat.reduceSub, Nat.reduceMul, Nat.reduceAdd]
  refine cond_split (fun h1 => ?_) (fun h1 => ?_)
  · obtain ⟨x, hx, hlt⟩ := at_of h1
    clear h1 hh
    have hh : True := trivial
    simp -implicitDefEqProofs only [hx, nat_nn, Nat.zero_le, List.getElem?_map, Option.map_some, GateTeam.ts, List.length_map, i64_succ (show k < 4611686018427387904 by omega), S0, S1, S2, S3, S4, S5, S6, S7, S8, S9, S10, S11, S12, S13, S14, S15, S16, S17, opv, opvs, eget, env0, setD, lenStr, lenSl, isNilP, isNilS, putAt, if_true, if_false, reduceCtorEq, Nat.reduceLeDiff, Nat.reduceEqDiff, Nat.reduceSub, Nat.reduceMul, Nat.reduceAdd]
    repeat' (first
    | ((with_reducible refine cond_known (fun h => ?_) (fun h => ?_)) <;> (replace hh := And.intro h hh; clear h; simp -implicitDefEqProofs only [hh, cond_t, cond_f, hx, nat_nn, Nat.zero_le, List.getElem?_map, Option.map_some, GateTeam.ts, List.length_map, i64_succ (show k < 4611686018427387904 by omega), S0, S1, S2, S3, S4, S5, S6, S7, S8, S9, S10, S11, S12, S13, S14, S15, S16, S17, opv, opvs, eget, env0, setD, lenStr, lenSl, isNilP, isNilS, putAt, if_true, if_false, reduceCtorEq, Nat.reduceLeDiff, Nat.reduceEqDiff, Nat.reduceSub, Nat.reduceMul, Nat.reduceAdd]))
    | (first | ((with_reducible refine fin0 ?_); refine tb ?_; (try simp only [Known] at hh); have hno := all_not (l := (l)) (p := (noN name)) hx; rw [hasT, hno (by grind [noN])]; rfl) | ((with_reducible refine fin ?_ ?_); rotate_left; exact rfl; refine tb ?_; (try simp only [Known] at hh); have hno := all_not (l := (l)) (p := (noN name)) hx; rw [hasT, hno (by grind [noN])]; rfl) | (refine lk_p0 (k + 1) (by simp) (by simp) (by omega) ⟨by omega, all_step hx hall ?_⟩ rfl; (try simp only [Known] at hh); grind [noN]) | (refine lk_p (k + 1) (by simp) (by simp) hσ rfl (by omega) ⟨by omega, all_step hx hall ?_⟩ rfl rfl; (try simp only [Known] at hh); grind [noN]) | (refine lk_pm (k + 1) (Nat.le_refl _) (by simp) hσ rfl rfl (by omega) ⟨by omega, all_step hx hall ?_⟩ (by simp [ltE, keep, eget, V.lt]) rfl; (try simp only [Known] at hh); grind [noN])))
  replace hall := all_len hall ((end_of h1 hk).trans (by rfl))
  clear h1 hk
  simp -implicitDefEqProofs only [S0, S1, S2, S3, S4, S5, S6, S7, S8, S9, S10, S11, S12, S13, S14, S15, S16, S17, opv, opvs, eget, env0, setD, lenStr, lenSl, isNilP, isNilS, putAt, if_true, if_false, reduceCtorEq, Nat.reduceLeDiff, Nat.reduceEqDiff, Nat.reduceSub, Nat.reduceMul, Nat.reduceAdd]
  (first | ((with_reducible refine fin0 ?_); refine tb ?_; (try simp only [Known] at hh); rw [hasT, hall]; rfl) | ((with_reducible refine fin ?_ ?_); rotate_left; exact rfl; refine tb ?_; (try simp only [Known] at hh); rw [hasT, hall]; rfl))
def c_spec_l4Over : C := (.seq (.ops [⟨(some 4), none, (.mv (.c (.t (.str []))))⟩]) (.seq (.seq (.ops [⟨(some 5), none, (.mv (.c (.t (.int .i64 0))))⟩]) (.block 0 (.loop (.seq (.seq (.ops [⟨(some 6), none, (.mv (.t 5))⟩, ⟨(some 7), none, (.mv (.t 0))⟩, ⟨(some 8), none, (.len false (.t 7))⟩, ⟨(some 9), none, (.bin .lss (.t 6) (.t 8))⟩]) (.cond (.t 9) .skip (.exit 0))) (.seq (.block 1 (.seq (.ops [⟨(some 12), none, (.mv (.t 0))⟩, ⟨(some 13), none, (.mv (.t 5))⟩, ⟨(some 14), none, (.indexAddr 2 (.t 12) (.t 13))⟩, ⟨(some 15), none, (.fieldAddr 0 (.t 14))⟩, ⟨(some 16), none, (.load none (.t 15))⟩, ⟨(some 17), none, (.mv (.t 1))⟩, ⟨(some 18), none, (.bin .eql (.t 16) (.t 17))⟩]) (.cond (.t 18) (.seq (.ops [⟨(some 19), none, (.mv (.t 0))⟩, ⟨(some 20), none, (.mv (.t 5))⟩, ⟨(some 21), none, (.indexAddr 2 (.t 19) (.t 20))⟩, ⟨(some 22), none, (.fieldAddr 1 (.t 21))⟩, ⟨(some 23), none, (.load none (.t 22))⟩, ⟨(some 4), none, (.mv (.t 23))⟩]) .ret) .skip))) (.ops [⟨(some 10), none, (.mv (.t 5))⟩, ⟨(some 11), none, (.bin .add (.t 10) (.c (.t (.int .i64 1))))⟩, ⟨(some 5), none, (.mv (.t 11))⟩])))))) (.seq (.ops [⟨(some 4), none, (.mv (.c (.t (.str []))))⟩]) .ret)))
theorem k_spec_l4Over : comp Tryd.prog 24 (Tryd.f106.body.getD .skip) = some c_spec_l4Over := by kernel_rfl

theorem spec_l4Over (l : List GateTeam) (hl : l.length ≤ 1048576) (name : List UInt8)  (σ : Store) : ACalls Tryd.prog 106 [.t (tGateTeamS l), .t (.str (name))] σ fun rr σ' => rr = .t (.str (overOf name l)) ∧ σ' = σ := by
  refine acalls_of Tryd.func106 (by decide +kernel) (code := Tryd.f106.body.getD .skip) (n := 24) (c := c_spec_l4Over) (rs := [(.tmp 4)]) rfl rfl k_spec_l4Over (by kernel_rfl) (by simp) (fun hσ => ?_)
  have hh : True := trivial
  have fin : ∀ {u : V} {τ : Store}, u = .t (.str (overOf name l)) → u.lt σ.length = true → retV σ.length (fun rr σ' => rr = .t (.str (overOf name l)) ∧ σ' = σ) (σ ++ τ) (some [u]) := fun h h2 => ret_same rfl hσ h2 ⟨h, rfl⟩
  have fin0 : ∀ {u : V}, u = .t (.str (overOf name l)) → retV σ.length (fun rr σ' => rr = .t (.str (overOf name l)) ∧ σ' = σ) σ (some [u]) := fun h => ret_same0 rfl ⟨h, rfl⟩
  simp -implicitDefEqProofs only [c_spec_l4Over, tGateTeamS, List.length_map, S0, S1, S2, S3, S4, S5, S6, S7, S8, S9, S10, S11, S12, S13, S14, S15, S16, S17, opv, opvs, eget, env0, setD, lenStr, lenSl, isNilP, isNilS, putAt, if_true, if_false, reduceCtorEq, Nat.reduceLeDiff, Nat.reduceEqDiff, Nat.reduceSub, Nat.reduceMul, Nat.reduceAdd]
  refine loop_p [5, 0, 1] [0, 1] (fun k : Nat => [(5, .t (.int .i64 (k : Nat)))]) (fun k => k ≤ l.length ∧ overOf name (l.drop k) = overOf name l) (fun k => l.length - k) 0 (by simp) ⟨Nat.zero_le _, rfl⟩ rfl ?_
  rintro k ⟨hk, hall⟩
  simp -implicitDefEqProofs only [keep, List.length_map, S0, S1, S2, S3, S4, S5, S6, S7, S8, S9, S10, S11, S12, S13, S14, S15, S16, S17, opv, opvs, eget, env0, setD, lenStr, lenSl, isNilP, isNilS, putAt, if_true, if_false, reduceCtorEq, Nat.reduceLeDiff, Nat.reduceEqDiff, Nat.reduceSub, Nat.reduceMul, Nat.reduceAdd]
  refine cond_split (fun h1 => ?_) (fun h1 => ?_)
  · obtain ⟨x, hx, hlt⟩ := at_of h1
    have hd := drop_of hx
    have more := i64_succ (show k < 4611686018427387904 by omega)
    rw [hd] at hall
    simp -implicitDefEqProofs only [hx, nat_nn, Nat.zero_le, List.getElem?_map, Option.map_some, List.length_map, GateTeam.ts, more, S0, S1, S2, S3, S4, S5, S6, S7, S8, S9, S10, S11, S12, S13, S14, S15, S16, S17, opv, opvs, eget, env0, setD, lenStr, lenSl, isNilP, isNilS, putAt, if_true, if_false, reduceCtorEq, Nat.reduceLeDiff, Nat.reduceEqDiff, Nat.reduceSub, Nat.reduceMul, Nat.reduceAdd]
    refine cond_split (fun g1 => ?_) (fun g1 => ?_)
    · have hb : x.Name = name := by simpa using g1
      simp -implicitDefEqProofs only [hx, nat_nn, Nat.zero_le, List.getElem?_map, Option.map_some, List.length_map, GateTeam.ts, more, S0, S1, S2, S3, S4, S5, S6, S7, S8, S9, S10, S11, S12, S13, S14, S15, S16, S17, opv, opvs, eget, env0, setD, lenStr, lenSl, isNilP, isNilS, putAt, if_true, if_false, reduceCtorEq, Nat.reduceLeDiff, Nat.reduceEqDiff, Nat.reduceSub, Nat.reduceMul, Nat.reduceAdd]
      simp only [overOf, findT, hb, if_true] at hall
      first | exact fin0 (by rw [← hall]) | exact fin (by rw [← hall]) rfl
    · have hb : ¬ x.Name = name := by simpa using g1
      simp only [overOf, findT, hb, if_false] at hall
      simp -implicitDefEqProofs only [more, S0, S1, S2, S3, S4, S5, S6, S7, S8, S9, S10, S11, S12, S13, S14, S15, S16, S17, opv, opvs, eget, env0, setD, lenStr, lenSl, isNilP, isNilS, putAt, if_true, if_false, reduceCtorEq, Nat.reduceLeDiff, Nat.reduceEqDiff, Nat.reduceSub, Nat.reduceMul, Nat.reduceAdd]
      first | exact lk_p0 (k + 1) (by simp) (by simp) (by omega) ⟨by omega, hall⟩ rfl | exact lk_p (k + 1) (by simp) (by simp) hσ rfl (by omega) ⟨by omega, hall⟩ (by simp [ltE, keep, eget, V.lt]) rfl | exact lk_pm (k + 1) (Nat.le_refl _) (by simp) hσ rfl rfl (by omega) ⟨by omega, hall⟩ (by simp [ltE, keep, eget, V.lt]) rfl
  · have hkk := end_of h1 hk
    rw [hkk, List.drop_length] at hall
    simp -implicitDefEqProofs only [S0, S1, S2, S3, S4, S5, S6, S7, S8, S9, S10, S11, S12, S13, S14, S15, S16, S17, opv, opvs, eget, env0, setD, lenStr, lenSl, isNilP, isNilS, putAt, if_true, if_false, reduceCtorEq, Nat.reduceLeDiff, Nat.reduceEqDiff, Nat.reduceSub, Nat.reduceMul, Nat.reduceAdd]
    first | exact fin0 (by rw [← hall]; rfl) | exact fin (by rw [← hall]; rfl) rfl

def c_impl_teamOf : C := (.seq (.ops [⟨(some 4), none, (.mv (.c (.t (.int .i64 0))))⟩]) (.seq (.seq (.ops [⟨(some 7), none, (.mv (.t 0))⟩, ⟨(some 8), none, (.len false (.t 7))⟩, ⟨(some 9), none, (.mv (.c (.t (.int .i64 0))))⟩]) (.block 0 (.loop (.seq (.ops [⟨(some 10), none, (.bin .lss (.t 9) (.t 8))⟩]) (.seq (.cond (.t 10) .skip (.exit 0)) (.seq (.block 1 (.seq (.ops [⟨(some 11), none, (.mv (.t 9))⟩, ⟨(some 12), none, (.indexAddr 2 (.t 7) (.t 9))⟩, ⟨(some 13), none, (.load (some 2) (.t 12))⟩, ⟨(some 6), none, (.new [(.t (.str [])), (.t (.str []))])⟩, ⟨(some 5), none, (.mv (.t 11))⟩, ⟨none, none, (.store 2 (.t 6) (.t 13))⟩]) (.seq (.ops [⟨(some 14), none, (.fieldAddr 0 (.t 6))⟩, ⟨(some 15), none, (.load none (.t 14))⟩, ⟨(some 16), none, (.mv (.t 1))⟩, ⟨(some 17), none, (.bin .eql (.t 15) (.t 16))⟩]) (.cond (.t 17) (.seq (.ops [⟨(some 18), none, (.mv (.t 5))⟩, ⟨(some 4), none, (.mv (.t 18))⟩]) .ret) .skip)))) (.ops [⟨(some 19), none, (.bin .add (.t 9) (.c (.t (.int .i64 1))))⟩, ⟨(some 9), none, (.mv (.t 19))⟩]))))))) (.seq (.ops [⟨(some 4), none, (.mv (.c (.t (.int .i64 (-1)))))⟩]) .ret)))
theorem k_impl_teamOf : comp Tryd.prog 20 (Tryd.f98.body.getD .skip) = some c_impl_teamOf := by kernel_rfl

theorem impl_teamOf (l : List GateTeam) (hl : l.length ≤ 1048576) (name : List UInt8)  (σ : Store) : ACalls Tryd.prog 98 [.t (tGateTeamS l), .t (.str (name))] σ fun rr σ' => rr = .t (.int .i64 (findT name l 0)) ∧ σ' = σ := by
  refine acalls_of Tryd.func98 (by decide +kernel) (code := Tryd.f98.body.getD .skip) (n := 20) (c := c_impl_teamOf) (rs := [(.tmp 4)]) rfl rfl k_impl_teamOf (by kernel_rfl) (by simp) (fun hσ => ?_)
  have hh : True := trivial
  have fin : ∀ {u : V} {τ : Store}, u = .t (.int .i64 (findT name l 0)) → u.lt σ.length = true → retV σ.length (fun rr σ' => rr = .t (.int .i64 (findT name l 0)) ∧ σ' = σ) (σ ++ τ) (some [u]) := fun h h2 => ret_same rfl hσ h2 ⟨h, rfl⟩
  have fin0 : ∀ {u : V}, u = .t (.int .i64 (findT name l 0)) → retV σ.length (fun rr σ' => rr = .t (.int .i64 (findT name l 0)) ∧ σ' = σ) σ (some [u]) := fun h => ret_same0 rfl ⟨h, rfl⟩
  simp -implicitDefEqProofs only [c_impl_teamOf, tGateTeamS, List.length_map, S0, S1, S2, S3, S4, S5, S6, S7, S8, S9, S10, S11, S12, S13, S14, S15, S16, S17, opv, opvs, eget, env0, setD, lenStr, lenSl, isNilP, isNilS, putAt, if_true, if_false, reduceCtorEq, Nat.reduceLeDiff, Nat.reduceEqDiff, Nat.reduceSub, Nat.reduceMul, Nat.reduceAdd]
  refine loop_p [9, 1, 7, 8] [1, 7, 8] (fun k : Nat => [(9, .t (.int .i64 (k : Nat)))]) (fun k => k ≤ l.length ∧ findT name (l.drop k) k = findT name l 0) (fun k => l.length - k) 0 (by simp) ⟨Nat.zero_le _, rfl⟩ rfl ?_
  rintro k ⟨hk, hall⟩
  simp -implicitDefEqProofs only [keep, List.length_map, S0, S1, S2, S3, S4, S5, S6, S7, S8, S9, S10, S11, S12, S13, S14, S15, S16, S17, opv, opvs, eget, env0, setD, lenStr, lenSl, isNilP, isNilS, putAt, if_true, if_false, reduceCtorEq, Nat.reduceLeDiff, Nat.reduceEqDiff, Nat.reduceSub, Nat.reduceMul, Nat.reduceAdd]
  refine cond_split (fun h1 => ?_) (fun h1 => ?_)
  · obtain ⟨x, hx, hlt⟩ := at_of h1
    have hd := drop_of hx
    have more := i64_succ (show k < 4611686018427387904 by omega)
    rw [hd] at hall
    simp -implicitDefEqProofs only [hx, nat_nn, Nat.zero_le, List.getElem?_map, Option.map_some, List.length_map, GateTeam.ts, more, S0, S1, S2, S3, S4, S5, S6, S7, S8, S9, S10, S11, S12, S13, S14, S15, S16, S17, opv, opvs, eget, env0, setD, lenStr, lenSl, isNilP, isNilS, putAt, if_true, if_false, reduceCtorEq, Nat.reduceLeDiff, Nat.reduceEqDiff, Nat.reduceSub, Nat.reduceMul, Nat.reduceAdd]
    refine cond_split (fun g1 => ?_) (fun g1 => ?_)
    · have hb : x.Name = name := by simpa using g1
      simp -implicitDefEqProofs only [hx, nat_nn, Nat.zero_le, List.getElem?_map, Option.map_some, List.length_map, GateTeam.ts, more, S0, S1, S2, S3, S4, S5, S6, S7, S8, S9, S10, S11, S12, S13, S14, S15, S16, S17, opv, opvs, eget, env0, setD, lenStr, lenSl, isNilP, isNilS, putAt, if_true, if_false, reduceCtorEq, Nat.reduceLeDiff, Nat.reduceEqDiff, Nat.reduceSub, Nat.reduceMul, Nat.reduceAdd]
      simp only [overOf, findT, hb, if_true] at hall
      first | exact fin0 (by rw [← hall]) | exact fin (by rw [← hall]) rfl
    · have hb : ¬ x.Name = name := by simpa using g1
      simp only [overOf, findT, hb, if_false] at hall
      simp -implicitDefEqProofs only [more, S0, S1, S2, S3, S4, S5, S6, S7, S8, S9, S10, S11, S12, S13, S14, S15, S16, S17, opv, opvs, eget, env0, setD, lenStr, lenSl, isNilP, isNilS, putAt, if_true, if_false, reduceCtorEq, Nat.reduceLeDiff, Nat.reduceEqDiff, Nat.reduceSub, Nat.reduceMul, Nat.reduceAdd]
      first | exact lk_p0 (k + 1) (by simp) (by simp) (by omega) ⟨by omega, hall⟩ rfl | exact lk_p (k + 1) (by simp) (by simp) hσ rfl (by omega) ⟨by omega, hall⟩ (by simp [ltE, keep, eget, V.lt]) rfl | exact lk_pm (k + 1) (Nat.le_refl _) (by simp) hσ rfl rfl (by omega) ⟨by omega, hall⟩ (by simp [ltE, keep, eget, V.lt]) rfl
  · have hkk := end_of h1 hk
    rw [hkk, List.drop_length] at hall
    simp -implicitDefEqProofs only [S0, S1, S2, S3, S4, S5, S6, S7, S8, S9, S10, S11, S12, S13, S14, S15, S16, S17, opv, opvs, eget, env0, setD, lenStr, lenSl, isNilP, isNilS, putAt, if_true, if_false, reduceCtorEq, Nat.reduceLeDiff, Nat.reduceEqDiff, Nat.reduceSub, Nat.reduceMul, Nat.reduceAdd]
    first | exact fin0 (by rw [← hall]; rfl) | exact fin (by rw [← hall]; rfl) rfl

def c_spec_GateTeamsOk : C := (.seq (.ops [⟨(some 2), none, (.mv (.c (.t (.bool false))))⟩]) (.seq (.seq (.ops [⟨(some 7), none, (.mv (.t 0))⟩, ⟨(some 8), none, (.len false (.t 7))⟩, ⟨(some 9), none, (.bin .gtr (.t 8) (.c (.t (.int .i64 12))))⟩]) (.cond (.t 9) (.seq (.ops [⟨(some 2), none, (.mv (.c (.t (.bool false))))⟩]) .ret) .skip)) (.seq (.seq (.ops [⟨(some 3), none, (.mv (.c (.t (.int .i64 0))))⟩]) (.block 0 (.loop (.seq (.seq (.ops [⟨(some 10), none, (.mv (.t 3))⟩, ⟨(some 11), none, (.mv (.t 0))⟩, ⟨(some 12), none, (.len false (.t 11))⟩, ⟨(some 13), none, (.bin .lss (.t 10) (.t 12))⟩]) (.cond (.t 13) .skip (.exit 0))) (.seq (.block 1 (.seq (.ops [⟨(some 16), none, (.mv (.t 0))⟩, ⟨(some 17), none, (.mv (.t 3))⟩, ⟨(some 18), none, (.indexAddr 2 (.t 16) (.t 17))⟩, ⟨(some 19), none, (.load (some 2) (.t 18))⟩, ⟨(some 4), none, (.new [(.t (.str [])), (.t (.str []))])⟩, ⟨none, none, (.store 2 (.t 4) (.t 19))⟩]) (.seq (.seq (.drawn [(.mk 0 false ⟨(some 20), none, (.fieldAddr 0 (.t 4))⟩ []), (.mk 1 false ⟨(some 21), none, (.load none (.t 20))⟩ []), (.mk 2 false ⟨(some 22), none, (.call (.c (.fn (.func 79) [])) [(.t 21)])⟩ []), (.mk 3 false ⟨(some 23), none, (.un .not (.t 22))⟩ []), (.mk 4 false ⟨(some 24), none, (.mv (.t 23))⟩ []), (.mk 5 false ⟨(some 25), (some ⟨24, false⟩), (.mv (.t 3))⟩ []), (.mk 6 false ⟨(some 26), (some ⟨24, false⟩), (.bin .gtr (.t 25) (.c (.t (.int .i64 0))))⟩ []), (.mk 7 false ⟨(some 27), (some ⟨24, false⟩), (.mv (.t 26))⟩ []), (.mk 8 false ⟨(some 28), (some ⟨27, true⟩), (.mv (.t 0))⟩ []), (.mk 9 false ⟨(some 29), (some ⟨27, true⟩), (.mv (.t 3))⟩ []), (.mk 10 false ⟨(some 30), (some ⟨27, true⟩), (.bin .sub (.t 29) (.c (.t (.int .i64 1))))⟩ []), (.mk 11 false ⟨(some 31), (some ⟨27, true⟩), (.indexAddr 2 (.t 28) (.t 30))⟩ []), (.mk 12 false ⟨(some 32), (some ⟨27, true⟩), (.fieldAddr 0 (.t 31))⟩ []), (.mk 13 false ⟨(some 33), (some ⟨27, true⟩), (.load none (.t 32))⟩ []), (.mk 14 false ⟨(some 34), (some ⟨27, true⟩), (.fieldAddr 0 (.t 4))⟩ []), (.mk 15 false ⟨(some 35), (some ⟨27, true⟩), (.load none (.t 34))⟩ []), (.mk 16 false ⟨(some 36), (some ⟨27, true⟩), (.bin .geq (.t 33) (.t 35))⟩ []), (.mk 17 false ⟨(some 37), (some ⟨24, false⟩), (.pick (.t 27) (.t 36) (.c (.t (.bool false))))⟩ []), (.mk 18 false ⟨(some 38), none, (.pick (.t 24) (.c (.t (.bool true))) (.t 37))⟩ []), (.mk 19 false ⟨(some 39), none, (.mv (.t 38))⟩ []), (.mk 20 false ⟨(some 40), (some ⟨39, false⟩), (.fieldAddr 1 (.t 4))⟩ []), (.mk 21 false ⟨(some 41), (some ⟨39, false⟩), (.load none (.t 40))⟩ []), (.mk 22 false ⟨(some 42), (some ⟨39, false⟩), (.bin .neq (.t 41) (.c (.t (.str []))))⟩ []), (.mk 23 false ⟨(some 43), (some ⟨39, false⟩), (.mv (.t 42))⟩ []), (.mk 24 false ⟨(some 44), (some ⟨43, true⟩), (.mv (.t 0))⟩ []), (.mk 25 false ⟨(some 45), (some ⟨43, true⟩), (.fieldAddr 1 (.t 4))⟩ []), (.mk 26 false ⟨(some 46), (some ⟨43, true⟩), (.load none (.t 45))⟩ []), (.mk 27 false ⟨(some 47), (some ⟨43, true⟩), (.call (.c (.fn (.func 105) [])) [(.t 44), (.t 46)])⟩ []), (.mk 28 false ⟨(some 48), (some ⟨43, true⟩), (.un .not (.t 47))⟩ []), (.mk 29 false ⟨(some 49), (some ⟨39, false⟩), (.pick (.t 43) (.t 48) (.c (.t (.bool false))))⟩ []), (.mk 30 false ⟨(some 50), none, (.pick (.t 39) (.c (.t (.bool true))) (.t 49))⟩ [])]) (.cond (.t 50) (.seq (.ops [⟨(some 2), none, (.mv (.c (.t (.bool false))))⟩]) .ret) .skip)) (.seq (.ops [⟨(some 51), none, (.fieldAddr 0 (.t 4))⟩, ⟨(some 52), none, (.load none (.t 51))⟩, ⟨(some 5), none, (.mv (.t 52))⟩]) (.seq (.seq (.ops [⟨(some 6), none, (.mv (.c (.t (.int .i64 0))))⟩]) (.block 2 (.loop (.seq (.seq (.ops [⟨(some 53), none, (.mv (.t 6))⟩, ⟨(some 54), none, (.bin .leq (.t 53) (.c (.t (.int .i64 4))))⟩, ⟨(some 55), none, (.mv (.t 54))⟩, ⟨(some 56), (some ⟨55, true⟩), (.mv (.t 5))⟩, ⟨(some 57), (some ⟨55, true⟩), (.bin .neq (.t 56) (.c (.t (.str []))))⟩, ⟨(some 58), none, (.pick (.t 55) (.t 57) (.c (.t (.bool false))))⟩]) (.cond (.t 58) .skip (.exit 2))) (.seq (.block 3 (.ops [⟨(some 61), none, (.mv (.t 0))⟩, ⟨(some 62), none, (.mv (.t 5))⟩, ⟨(some 63), none, (.call (.c (.fn (.func 106) [])) [(.t 61), (.t 62)])⟩, ⟨(some 5), none, (.mv (.t 63))⟩])) (.ops [⟨(some 59), none, (.mv (.t 6))⟩, ⟨(some 60), none, (.bin .add (.t 59) (.c (.t (.int .i64 1))))⟩, ⟨(some 6), none, (.mv (.t 60))⟩])))))) (.seq (.ops [⟨(some 64), none, (.mv (.t 5))⟩, ⟨(some 65), none, (.bin .neq (.t 64) (.c (.t (.str []))))⟩]) (.cond (.t 65) (.seq (.ops [⟨(some 2), none, (.mv (.c (.t (.bool false))))⟩]) .ret) .skip))))))) (.ops [⟨(some 14), none, (.mv (.t 3))⟩, ⟨(some 15), none, (.bin .add (.t 14) (.c (.t (.int .i64 1))))⟩, ⟨(some 3), none, (.mv (.t 15))⟩])))))) (.seq (.ops [⟨(some 2), none, (.mv (.c (.t (.bool true))))⟩]) .ret))))
theorem k_spec_GateTeamsOk : comp Tryd.prog 66 (Tryd.f70.body.getD .skip) = some c_spec_GateTeamsOk := by kernel_rfl

theorem spec_GateTeamsOk (l : List GateTeam) (hl : GateTeam.OkS l)  (σ : Store) : ACalls Tryd.prog 70 [.t (tGateTeamS l)] σ fun rr σ' => rr = .t (.bool (teamsOk l)) ∧ σ' = σ := by
  refine acalls_of Tryd.func70 (by decide +kernel) (code := Tryd.f70.body.getD .skip) (n := 66) (c := c_spec_GateTeamsOk) (rs := [(.tmp 2)]) rfl rfl k_spec_GateTeamsOk (by kernel_rfl) (by simp) (fun hσ => ?_)
  have hh : True := trivial
  have fin : ∀ {u : V} {τ : Store}, u = .t (.bool (teamsOk l)) → u.lt σ.length = true → retV σ.length (fun rr σ' => rr = .t (.bool (teamsOk l)) ∧ σ' = σ) (σ ++ τ) (some [u]) := fun h h2 => ret_same rfl hσ h2 ⟨h, rfl⟩
  have fin0 : ∀ {u : V}, u = .t (.bool (teamsOk l)) → retV σ.length (fun rr σ' => rr = .t (.bool (teamsOk l)) ∧ σ' = σ) σ (some [u]) := fun h => ret_same0 rfl ⟨h, rfl⟩
  have y1 := hl.1
  simp -implicitDefEqProofs only [c_spec_GateTeamsOk, List.length_map, tGateTeamS, S0, S1, S2, S3, S4, S5, S6, S7, S8, S9, S10, S11, S12, S13, S14, S15, S16, S17, opv, opvs, eget, env0, setD, lenStr, lenSl, isNilP, isNilS, putAt, if_true, if_false, reduceCtorEq, Nat.reduceLeDiff, Nat.reduceEqDiff, Nat.reduceSub, Nat.reduceMul, Nat.reduceAdd]
  refine cond_split (fun h0 => ?_) (fun h0 => ?_)
  · have hn : ¬ l.length ≤ 12 := by simp at h0; omega
    simp -implicitDefEqProofs only [S0, S1, S2, S3, S4, S5, S6, S7, S8, S9, S10, S11, S12, S13, S14, S15, S16, S17, opv, opvs, eget, env0, setD, lenStr, lenSl, isNilP, isNilS, putAt, if_true, if_false, reduceCtorEq, Nat.reduceLeDiff, Nat.reduceEqDiff, Nat.reduceSub, Nat.reduceMul, Nat.reduceAdd]
    first | exact fin0 (by simp [teamsOk, hn]) | exact fin (by simp [teamsOk, hn]) rfl
  have hn : l.length ≤ 12 := by simp at h0; omega
  simp -implicitDefEqProofs only [List.length_map, S0, S1, S2, S3, S4, S5, S6, S7, S8, S9, S10, S11, S12, S13, S14, S15, S16, S17, opv, opvs, eget, env0, setD, lenStr, lenSl, isNilP, isNilS, putAt, if_true, if_false, reduceCtorEq, Nat.reduceLeDiff, Nat.reduceEqDiff, Nat.reduceSub, Nat.reduceMul, Nat.reduceAdd]
  refine loop_p [3, 0] [0] (fun k : Nat => [(3, .t (.int .i64 (k : Nat)))]) (fun k => k ≤ l.length ∧ (l.zipIdx.take k).all (teamP l) = true) (fun k => l.length - k) 0 (by simp) ⟨Nat.zero_le _, rfl⟩ rfl ?_
  rintro k ⟨hk, hall⟩
  simp -implicitDefEqProofs only [keep, List.length_map, S0, S1, S2, S3, S4, S5, S6, S7, S8, S9, S10, S11, S12, S13, S14, S15, S16, S17, opv, opvs, eget, env0, setD, lenStr, lenSl, isNilP, isNilS, putAt, if_true, if_false, reduceCtorEq, Nat.reduceLeDiff, Nat.reduceEqDiff, Nat.reduceSub, Nat.reduceMul, Nat.reduceAdd]
  refine cond_split (fun h1 => ?_) (fun h1 => ?_)
  · obtain ⟨x, hx, hlt⟩ := at_of h1
    have hxo := hl.2 x (mem_at hx)
    have more := i64_succ (show k < 4611686018427387904 by omega)
    simp -implicitDefEqProofs only [hx, nat_nn, Nat.zero_le, List.getElem?_map, Option.map_some, List.length_map, GateTeam.ts, more, S0, S1, S2, S3, S4, S5, S6, S7, S8, S9, S10, S11, S12, S13, S14, S15, S16, S17, opv, opvs, eget, env0, setD, lenStr, lenSl, isNilP, isNilS, putAt, if_true, if_false, reduceCtorEq, Nat.reduceLeDiff, Nat.reduceEqDiff, Nat.reduceSub, Nat.reduceMul, Nat.reduceAdd]
    have hh : True := trivial
    repeat' (first
      | ((with_reducible refine cond_known (fun h => ?_) (fun h => ?_)) <;> (replace hh := And.intro h hh; clear h; simp -implicitDefEqProofs only [hh, cond_t, cond_f, hx, nat_nn, Nat.zero_le, List.getElem?_map, Option.map_some, List.length_map, GateTeam.ts, more, S0, S1, S2, S3, S4, S5, S6, S7, S8, S9, S10, S11, S12, S13, S14, S15, S16, S17, opv, opvs, eget, env0, setD, lenStr, lenSl, isNilP, isNilS, putAt, if_true, if_false, reduceCtorEq, Nat.reduceLeDiff, Nat.reduceEqDiff, Nat.reduceSub, Nat.reduceMul, Nat.reduceAdd]))
      | ((with_reducible refine call_pure (spec_l1NameOk _ hxo.Name _) ?_); simp -implicitDefEqProofs only [hh, cond_t, cond_f, hx, nat_nn, Nat.zero_le, List.getElem?_map, Option.map_some, List.length_map, GateTeam.ts, more, S0, S1, S2, S3, S4, S5, S6, S7, S8, S9, S10, S11, S12, S13, S14, S15, S16, S17, opv, opvs, eget, env0, setD, lenStr, lenSl, isNilP, isNilS, putAt, if_true, if_false, reduceCtorEq, Nat.reduceLeDiff, Nat.reduceEqDiff, Nat.reduceSub, Nat.reduceMul, Nat.reduceAdd])
      | ((with_reducible refine call_pure (spec_l4Team l y1 _ _) ?_); simp -implicitDefEqProofs only [hh, cond_t, cond_f, hx, nat_nn, Nat.zero_le, List.getElem?_map, Option.map_some, List.length_map, GateTeam.ts, more, S0, S1, S2, S3, S4, S5, S6, S7, S8, S9, S10, S11, S12, S13, S14, S15, S16, S17, opv, opvs, eget, env0, setD, lenStr, lenSl, isNilP, isNilS, putAt, if_true, if_false, reduceCtorEq, Nat.reduceLeDiff, Nat.reduceEqDiff, Nat.reduceSub, Nat.reduceMul, Nat.reduceAdd])
      | (obtain ⟨y, hy, hw⟩ := prev_of hx hh.1 y1; simp -implicitDefEqProofs only [hh, cond_t, cond_f, hy, hw, hx, nat_nn, Nat.zero_le, List.getElem?_map, Option.map_some, List.length_map, GateTeam.ts, more, S0, S1, S2, S3, S4, S5, S6, S7, S8, S9, S10, S11, S12, S13, S14, S15, S16, S17, opv, opvs, eget, env0, setD, lenStr, lenSl, isNilP, isNilS, putAt, if_true, if_false, reduceCtorEq, Nat.reduceLeDiff, Nat.reduceEqDiff, Nat.reduceSub, Nat.reduceMul, Nat.reduceAdd])
      | ((first | refine fin0 (tb ?_) | refine fin (tb ?_) rfl); (try simp only [Known] at hh); have hno := all_not (l := l.zipIdx) (p := teamP l) (zip_at hx) (by grind [teamP, firstP, prevS]); simp [teamsOk, hno]))
    all_goals
      have hf : firstP l (x, k) = true := by simp only [Known] at hh; grind [firstP, prevS]
      clear hh
      refine loop_p [5, 6, 0, 3] [0, 3] (fun g : Nat × List UInt8 => [(5, .t (.str g.2)), (6, .t (.int .i64 (g.1 : Nat)))]) (fun g => g.1 ≤ 5 ∧ climb l (5 - g.1) g.2 = climb l 5 x.Name) (fun g => 5 - g.1) (0, x.Name) (by simp) ⟨Nat.zero_le _, rfl⟩ rfl ?_
      rintro ⟨n, a⟩ ⟨hn5, hcl⟩
      simp only at hn5 hcl
      simp -implicitDefEqProofs only [keep, S0, S1, S2, S3, S4, S5, S6, S7, S8, S9, S10, S11, S12, S13, S14, S15, S16, S17, opv, opvs, eget, env0, setD, lenStr, lenSl, isNilP, isNilS, putAt, if_true, if_false, reduceCtorEq, Nat.reduceLeDiff, Nat.reduceEqDiff, Nat.reduceSub, Nat.reduceMul, Nat.reduceAdd]
      have more2 := i64_succ (show n < 4611686018427387904 by omega)
      by_cases hend : n ≤ 4 ∧ ¬ a = []
      · have d1 : decide ((n : Int) ≤ 4) = true := by simp; omega
        have d2 : (a == []) = false := by simp [hend.2]
        simp -implicitDefEqProofs only [d1, d2, Bool.not_false, Bool.not_true, cond_t, cond_f, nat_nn, Nat.zero_le, List.getElem?_map, Option.map_some, List.length_map, more2, S0, S1, S2, S3, S4, S5, S6, S7, S8, S9, S10, S11, S12, S13, S14, S15, S16, S17, opv, opvs, eget, env0, setD, lenStr, lenSl, isNilP, isNilS, putAt, if_true, if_false, reduceCtorEq, Nat.reduceLeDiff, Nat.reduceEqDiff, Nat.reduceSub, Nat.reduceMul, Nat.reduceAdd]
        refine call_pure (spec_l4Over l y1 _ _) ?_
        simp -implicitDefEqProofs only [more2, S0, S1, S2, S3, S4, S5, S6, S7, S8, S9, S10, S11, S12, S13, S14, S15, S16, S17, opv, opvs, eget, env0, setD, lenStr, lenSl, isNilP, isNilS, putAt, if_true, if_false, reduceCtorEq, Nat.reduceLeDiff, Nat.reduceEqDiff, Nat.reduceSub, Nat.reduceMul, Nat.reduceAdd]
        have hc2 : climb l (5 - (n + 1)) (overOf a l) = climb l 5 x.Name := by
          rw [← hcl, show 5 - n = (5 - (n + 1)) + 1 by omega, climb, if_neg hend.2]
        first | exact lk_p0 (n + 1, overOf a l) (by simp) (by simp) (by simp only; omega) ⟨by simp only; omega, hc2⟩ rfl | exact lk_p (n + 1, overOf a l) (by simp) (by simp) hσ rfl (by simp only; omega) ⟨by simp only; omega, hc2⟩ (by simp [ltE, keep, eget, V.lt]) rfl | exact lk_pm (n + 1, overOf a l) (Nat.le_refl _) (by simp) hσ rfl rfl (by simp only; omega) ⟨by simp only; omega, hc2⟩ (by simp [ltE, keep, eget, V.lt]) rfl
      · have hr : climb l 5 x.Name = a := by
          rw [← hcl]
          by_cases ha : a = []
          · rw [ha, climb_nil]
          · have : n = 5 := by
              have : ¬ n ≤ 4 := fun h => hend ⟨h, ha⟩
              omega
            subst this; rfl
        have hfin : ∀ b, (a == []) = b → teamP l (x, k) = b := fun b hb => by simp [teamP, hf, hr, hb]
        have last : ∀ (b : Bool), (a == []) = b → True := fun _ _ => trivial
        by_cases hn4 : n ≤ 4
        · have ha : a = [] := Classical.byContradiction fun h => hend ⟨hn4, h⟩
          have d1 : decide ((n : Int) ≤ 4) = true := by simp; omega
          have d2 : (a == []) = true := by simp [ha]
          have ht := hfin true d2
          simp -implicitDefEqProofs only [d1, d2, Bool.not_false, Bool.not_true, cond_t, cond_f, more, S0, S1, S2, S3, S4, S5, S6, S7, S8, S9, S10, S11, S12, S13, S14, S15, S16, S17, opv, opvs, eget, env0, setD, lenStr, lenSl, isNilP, isNilS, putAt, if_true, if_false, reduceCtorEq, Nat.reduceLeDiff, Nat.reduceEqDiff, Nat.reduceSub, Nat.reduceMul, Nat.reduceAdd]
          first | exact lk_p0 (k + 1) (by simp) (by simp) (by omega) ⟨by omega, all_step (zip_at hx) hall ht⟩ rfl | exact lk_p (k + 1) (by simp) (by simp) hσ rfl (by omega) ⟨by omega, all_step (zip_at hx) hall ht⟩ (by simp [ltE, keep, eget, V.lt]) rfl | exact lk_pm (k + 1) (Nat.le_refl _) (by simp) hσ rfl rfl (by omega) ⟨by omega, all_step (zip_at hx) hall ht⟩ (by simp [ltE, keep, eget, V.lt]) rfl
        · have d1 : decide ((n : Int) ≤ 4) = false := by simp; omega
          simp -implicitDefEqProofs only [d1, cond_t, cond_f, S0, S1, S2, S3, S4, S5, S6, S7, S8, S9, S10, S11, S12, S13, S14, S15, S16, S17, opv, opvs, eget, env0, setD, lenStr, lenSl, isNilP, isNilS, putAt, if_true, if_false, reduceCtorEq, Nat.reduceLeDiff, Nat.reduceEqDiff, Nat.reduceSub, Nat.reduceMul, Nat.reduceAdd]
          refine cond_split (fun g1 => ?_) (fun g1 => ?_)
          · have d2 : (a == []) = false := by simpa using g1
            have hno := all_not (l := l.zipIdx) (p := teamP l) (zip_at hx) (hfin false d2)
            simp -implicitDefEqProofs only [S0, S1, S2, S3, S4, S5, S6, S7, S8, S9, S10, S11, S12, S13, S14, S15, S16, S17, opv, opvs, eget, env0, setD, lenStr, lenSl, isNilP, isNilS, putAt, if_true, if_false, reduceCtorEq, Nat.reduceLeDiff, Nat.reduceEqDiff, Nat.reduceSub, Nat.reduceMul, Nat.reduceAdd]
            first | exact fin0 (by simp [teamsOk, hno]) | exact fin (by simp [teamsOk, hno]) rfl
          · have d2 : (a == []) = true := by simpa using g1
            have ht := hfin true d2
            simp -implicitDefEqProofs only [more, S0, S1, S2, S3, S4, S5, S6, S7, S8, S9, S10, S11, S12, S13, S14, S15, S16, S17, opv, opvs, eget, env0, setD, lenStr, lenSl, isNilP, isNilS, putAt, if_true, if_false, reduceCtorEq, Nat.reduceLeDiff, Nat.reduceEqDiff, Nat.reduceSub, Nat.reduceMul, Nat.reduceAdd]
            first | exact lk_p0 (k + 1) (by simp) (by simp) (by omega) ⟨by omega, all_step (zip_at hx) hall ht⟩ rfl | exact lk_p (k + 1) (by simp) (by simp) hσ rfl (by omega) ⟨by omega, all_step (zip_at hx) hall ht⟩ (by simp [ltE, keep, eget, V.lt]) rfl | exact lk_pm (k + 1) (Nat.le_refl _) (by simp) hσ rfl rfl (by omega) ⟨by omega, all_step (zip_at hx) hall ht⟩ (by simp [ltE, keep, eget, V.lt]) rfl
  · replace hall := all_len hall ((end_of h1 hk).trans (by simp))
    simp -implicitDefEqProofs only [List.length_map, S0, S1, S2, S3, S4, S5, S6, S7, S8, S9, S10, S11, S12, S13, S14, S15, S16, S17, opv, opvs, eget, env0, setD, lenStr, lenSl, isNilP, isNilS, putAt, if_true, if_false, reduceCtorEq, Nat.reduceLeDiff, Nat.reduceEqDiff, Nat.reduceSub, Nat.reduceMul, Nat.reduceAdd]
    first | exact fin0 (by simp [teamsOk, hall, hn]) | exact fin (by simp [teamsOk, hall, hn]) rfl

def c_impl_GateTeamsOk : C := (.seq (.ops [⟨(some 2), none, (.mv (.c (.t (.bool false))))⟩]) (.seq (.seq (.ops [⟨(some 9), none, (.mv (.t 0))⟩, ⟨(some 10), none, (.len false (.t 9))⟩, ⟨(some 11), none, (.bin .gtr (.t 10) (.c (.t (.int .i64 12))))⟩]) (.cond (.t 11) (.seq (.ops [⟨(some 2), none, (.mv (.c (.t (.bool false))))⟩]) .ret) .skip)) (.seq (.seq (.ops [⟨(some 12), none, (.mv (.t 0))⟩, ⟨(some 13), none, (.len false (.t 12))⟩, ⟨(some 14), none, (.mv (.c (.t (.int .i64 0))))⟩]) (.block 0 (.loop (.seq (.ops [⟨(some 15), none, (.bin .lss (.t 14) (.t 13))⟩]) (.seq (.cond (.t 15) .skip (.exit 0)) (.seq (.block 1 (.seq (.ops [⟨(some 16), none, (.mv (.t 14))⟩, ⟨(some 17), none, (.indexAddr 2 (.t 12) (.t 14))⟩, ⟨(some 18), none, (.load (some 2) (.t 17))⟩, ⟨(some 4), none, (.new [(.t (.str [])), (.t (.str []))])⟩, ⟨(some 3), none, (.mv (.t 16))⟩, ⟨none, none, (.store 2 (.t 4) (.t 18))⟩]) (.seq (.drawn [(.mk 0 false ⟨(some 19), none, (.fieldAddr 0 (.t 4))⟩ []), (.mk 1 false ⟨(some 20), none, (.load none (.t 19))⟩ []), (.mk 2 false ⟨(some 21), none, (.call (.c (.fn (.func 86) [])) [(.t 20)])⟩ []), (.mk 3 false ⟨(some 22), none, (.un .not (.t 21))⟩ []), (.mk 4 false ⟨(some 23), none, (.mv (.t 22))⟩ []), (.mk 5 false ⟨(some 24), (some ⟨23, false⟩), (.mv (.t 3))⟩ []), (.mk 6 false ⟨(some 25), (some ⟨23, false⟩), (.bin .gtr (.t 24) (.c (.t (.int .i64 0))))⟩ []), (.mk 7 false ⟨(some 26), (some ⟨23, false⟩), (.mv (.t 25))⟩ []), (.mk 8 false ⟨(some 27), (some ⟨26, true⟩), (.mv (.t 0))⟩ []), (.mk 9 false ⟨(some 28), (some ⟨26, true⟩), (.mv (.t 3))⟩ []), (.mk 10 false ⟨(some 29), (some ⟨26, true⟩), (.bin .sub (.t 28) (.c (.t (.int .i64 1))))⟩ []), (.mk 11 false ⟨(some 30), (some ⟨26, true⟩), (.indexAddr 2 (.t 27) (.t 29))⟩ []), (.mk 12 false ⟨(some 31), (some ⟨26, true⟩), (.fieldAddr 0 (.t 30))⟩ []), (.mk 13 false ⟨(some 32), (some ⟨26, true⟩), (.load none (.t 31))⟩ []), (.mk 14 false ⟨(some 33), (some ⟨26, true⟩), (.fieldAddr 0 (.t 4))⟩ []), (.mk 15 false ⟨(some 34), (some ⟨26, true⟩), (.load none (.t 33))⟩ []), (.mk 16 false ⟨(some 35), (some ⟨26, true⟩), (.bin .geq (.t 32) (.t 34))⟩ []), (.mk 17 false ⟨(some 36), (some ⟨23, false⟩), (.pick (.t 26) (.t 35) (.c (.t (.bool false))))⟩ []), (.mk 18 false ⟨(some 37), none, (.pick (.t 23) (.c (.t (.bool true))) (.t 36))⟩ []), (.mk 19 false ⟨(some 38), none, (.mv (.t 37))⟩ []), (.mk 20 false ⟨(some 39), (some ⟨38, false⟩), (.fieldAddr 1 (.t 4))⟩ []), (.mk 21 false ⟨(some 40), (some ⟨38, false⟩), (.load none (.t 39))⟩ []), (.mk 22 false ⟨(some 41), (some ⟨38, false⟩), (.bin .neq (.t 40) (.c (.t (.str []))))⟩ []), (.mk 23 false ⟨(some 42), (some ⟨38, false⟩), (.mv (.t 41))⟩ []), (.mk 24 false ⟨(some 43), (some ⟨42, true⟩), (.mv (.t 0))⟩ []), (.mk 25 false ⟨(some 44), (some ⟨42, true⟩), (.fieldAddr 1 (.t 4))⟩ []), (.mk 26 false ⟨(some 45), (some ⟨42, true⟩), (.load none (.t 44))⟩ []), (.mk 27 false ⟨(some 46), (some ⟨42, true⟩), (.call (.c (.fn (.func 98) [])) [(.t 43), (.t 45)])⟩ []), (.mk 28 false ⟨(some 47), (some ⟨42, true⟩), (.bin .lss (.t 46) (.c (.t (.int .i64 0))))⟩ []), (.mk 29 false ⟨(some 48), (some ⟨38, false⟩), (.pick (.t 42) (.t 47) (.c (.t (.bool false))))⟩ []), (.mk 30 false ⟨(some 49), none, (.pick (.t 38) (.c (.t (.bool true))) (.t 48))⟩ [])]) (.cond (.t 49) (.seq (.ops [⟨(some 2), none, (.mv (.c (.t (.bool false))))⟩]) .ret) .skip)))) (.ops [⟨(some 50), none, (.bin .add (.t 14) (.c (.t (.int .i64 1))))⟩, ⟨(some 14), none, (.mv (.t 50))⟩]))))))) (.seq (.seq (.ops [⟨(some 51), none, (.mv (.t 0))⟩, ⟨(some 52), none, (.len false (.t 51))⟩, ⟨(some 53), none, (.mv (.c (.t (.int .i64 0))))⟩]) (.block 2 (.loop (.seq (.ops [⟨(some 54), none, (.bin .lss (.t 53) (.t 52))⟩]) (.seq (.cond (.t 54) .skip (.exit 2)) (.seq (.block 3 (.seq (.ops [⟨(some 55), none, (.indexAddr 2 (.t 51) (.t 53))⟩, ⟨(some 56), none, (.load (some 2) (.t 55))⟩, ⟨(some 6), none, (.new [(.t (.str [])), (.t (.str []))])⟩, ⟨none, none, (.store 2 (.t 6) (.t 56))⟩]) (.seq (.ops [⟨(some 7), none, (.mv (.c (.t (.int .i64 0))))⟩]) (.seq (.ops [⟨(some 57), none, (.fieldAddr 1 (.t 6))⟩, ⟨(some 58), none, (.load none (.t 57))⟩, ⟨(some 8), none, (.mv (.t 58))⟩]) (.block 4 (.loop (.seq (.seq (.ops [⟨(some 59), none, (.mv (.t 8))⟩, ⟨(some 60), none, (.bin .neq (.t 59) (.c (.t (.str []))))⟩]) (.cond (.t 60) .skip (.exit 4))) (.seq (.block 5 (.seq (.ops [⟨(some 68), none, (.mv (.t 7))⟩, ⟨(some 69), none, (.bin .add (.t 68) (.c (.t (.int .i64 1))))⟩, ⟨(some 7), none, (.mv (.t 69))⟩]) (.seq (.ops [⟨(some 70), none, (.mv (.t 7))⟩, ⟨(some 71), none, (.bin .gtr (.t 70) (.c (.t (.int .i64 4))))⟩]) (.cond (.t 71) (.seq (.ops [⟨(some 2), none, (.mv (.c (.t (.bool false))))⟩]) .ret) .skip)))) (.ops [⟨(some 61), none, (.mv (.t 0))⟩, ⟨(some 62), none, (.mv (.t 0))⟩, ⟨(some 63), none, (.mv (.t 8))⟩, ⟨(some 64), none, (.call (.c (.fn (.func 98) [])) [(.t 62), (.t 63)])⟩, ⟨(some 65), none, (.indexAddr 2 (.t 61) (.t 64))⟩, ⟨(some 66), none, (.fieldAddr 1 (.t 65))⟩, ⟨(some 67), none, (.load none (.t 66))⟩, ⟨(some 8), none, (.mv (.t 67))⟩]))))))))) (.ops [⟨(some 72), none, (.bin .add (.t 53) (.c (.t (.int .i64 1))))⟩, ⟨(some 53), none, (.mv (.t 72))⟩]))))))) (.seq (.ops [⟨(some 2), none, (.mv (.c (.t (.bool true))))⟩]) .ret)))))
theorem k_impl_GateTeamsOk : comp Tryd.prog 73 (Tryd.f66.body.getD .skip) = some c_impl_GateTeamsOk := by kernel_rfl

theorem impl_GateTeamsOkI (l : List GateTeam) (hl : GateTeam.OkS l)  (σ : Store) : ACalls Tryd.prog 66 [.t (tGateTeamS l)] σ fun rr σ' => rr = .t (.bool (teamsOkI l)) ∧ σ' = σ := by
  refine acalls_of Tryd.func66 (by decide +kernel) (code := Tryd.f66.body.getD .skip) (n := 73) (c := c_impl_GateTeamsOk) (rs := [(.tmp 2)]) rfl rfl k_impl_GateTeamsOk (by kernel_rfl) (by simp) (fun hσ => ?_)
  have hh : True := trivial
  have fin : ∀ {u : V} {τ : Store}, u = .t (.bool (teamsOkI l)) → u.lt σ.length = true → retV σ.length (fun rr σ' => rr = .t (.bool (teamsOkI l)) ∧ σ' = σ) (σ ++ τ) (some [u]) := fun h h2 => ret_same rfl hσ h2 ⟨h, rfl⟩
  have fin0 : ∀ {u : V}, u = .t (.bool (teamsOkI l)) → retV σ.length (fun rr σ' => rr = .t (.bool (teamsOkI l)) ∧ σ' = σ) σ (some [u]) := fun h => ret_same0 rfl ⟨h, rfl⟩
  have y1 := hl.1
  simp -implicitDefEqProofs only [c_impl_GateTeamsOk, List.length_map, tGateTeamS, S0, S1, S2, S3, S4, S5, S6, S7, S8, S9, S10, S11, S12, S13, S14, S15, S16, S17, opv, opvs, eget, env0, setD, lenStr, lenSl, isNilP, isNilS, putAt, if_true, if_false, reduceCtorEq, Nat.reduceLeDiff, Nat.reduceEqDiff, Nat.reduceSub, Nat.reduceMul, Nat.reduceAdd]
  refine cond_split (fun h0 => ?_) (fun h0 => ?_)
  · have hn : ¬ l.length ≤ 12 := by simp at h0; omega
    simp -implicitDefEqProofs only [S0, S1, S2, S3, S4, S5, S6, S7, S8, S9, S10, S11, S12, S13, S14, S15, S16, S17, opv, opvs, eget, env0, setD, lenStr, lenSl, isNilP, isNilS, putAt, if_true, if_false, reduceCtorEq, Nat.reduceLeDiff, Nat.reduceEqDiff, Nat.reduceSub, Nat.reduceMul, Nat.reduceAdd]
    first | exact fin0 (by simp [teamsOkI, hn]) | exact fin (by simp [teamsOkI, hn]) rfl
  have hn : l.length ≤ 12 := by simp at h0; omega
  simp -implicitDefEqProofs only [List.length_map, S0, S1, S2, S3, S4, S5, S6, S7, S8, S9, S10, S11, S12, S13, S14, S15, S16, S17, opv, opvs, eget, env0, setD, lenStr, lenSl, isNilP, isNilS, putAt, if_true, if_false, reduceCtorEq, Nat.reduceLeDiff, Nat.reduceEqDiff, Nat.reduceSub, Nat.reduceMul, Nat.reduceAdd]
  refine loop_p [14, 0, 12, 13] [0, 12, 13] (fun k : Nat => [(14, .t (.int .i64 (k : Nat)))]) (fun k => k ≤ l.length ∧ (l.zipIdx.take k).all (firstP l) = true) (fun k => l.length - k) 0 (by simp) ⟨Nat.zero_le _, rfl⟩ rfl ?_
  rintro k ⟨hk, hall⟩
  simp -implicitDefEqProofs only [keep, List.length_map, S0, S1, S2, S3, S4, S5, S6, S7, S8, S9, S10, S11, S12, S13, S14, S15, S16, S17, opv, opvs, eget, env0, setD, lenStr, lenSl, isNilP, isNilS, putAt, if_true, if_false, reduceCtorEq, Nat.reduceLeDiff, Nat.reduceEqDiff, Nat.reduceSub, Nat.reduceMul, Nat.reduceAdd]
  refine cond_split (fun h1 => ?_) (fun h1 => ?_)
  · obtain ⟨x, hx, hlt⟩ := at_of h1
    have hxo := hl.2 x (mem_at hx)
    have more := i64_succ (show k < 4611686018427387904 by omega)
    have hhas : decide (findT x.Over l 0 < 0) = !hasT l x.Over := by
      rcases find_over x.Over l 0 with ⟨h1, h2, h3⟩ | ⟨i, t, h1, h2, h3, h4⟩
      · rw [h1, h3]; rfl
      · rw [h2, h4]; simp
    simp -implicitDefEqProofs only [hx, nat_nn, Nat.zero_le, List.getElem?_map, Option.map_some, List.length_map, GateTeam.ts, more, S0, S1, S2, S3, S4, S5, S6, S7, S8, S9, S10, S11, S12, S13, S14, S15, S16, S17, opv, opvs, eget, env0, setD, lenStr, lenSl, isNilP, isNilS, putAt, if_true, if_false, reduceCtorEq, Nat.reduceLeDiff, Nat.reduceEqDiff, Nat.reduceSub, Nat.reduceMul, Nat.reduceAdd]
    have hh : True := trivial
    repeat' (first
      | ((with_reducible refine cond_known (fun h => ?_) (fun h => ?_)) <;> (replace hh := And.intro h hh; clear h; simp -implicitDefEqProofs only [hh, cond_t, cond_f, hx, nat_nn, Nat.zero_le, List.getElem?_map, Option.map_some, List.length_map, GateTeam.ts, more, S0, S1, S2, S3, S4, S5, S6, S7, S8, S9, S10, S11, S12, S13, S14, S15, S16, S17, opv, opvs, eget, env0, setD, lenStr, lenSl, isNilP, isNilS, putAt, if_true, if_false, reduceCtorEq, Nat.reduceLeDiff, Nat.reduceEqDiff, Nat.reduceSub, Nat.reduceMul, Nat.reduceAdd]))
      | ((with_reducible refine call_pure (impl_isName _ hxo.Name _) ?_); simp -implicitDefEqProofs only [hh, cond_t, cond_f, hx, nat_nn, Nat.zero_le, List.getElem?_map, Option.map_some, List.length_map, GateTeam.ts, more, S0, S1, S2, S3, S4, S5, S6, S7, S8, S9, S10, S11, S12, S13, S14, S15, S16, S17, opv, opvs, eget, env0, setD, lenStr, lenSl, isNilP, isNilS, putAt, if_true, if_false, reduceCtorEq, Nat.reduceLeDiff, Nat.reduceEqDiff, Nat.reduceSub, Nat.reduceMul, Nat.reduceAdd])
      | ((with_reducible refine call_pure (impl_teamOf l y1 _ _) ?_); simp -implicitDefEqProofs only [hh, cond_t, cond_f, hhas, hx, nat_nn, Nat.zero_le, List.getElem?_map, Option.map_some, List.length_map, GateTeam.ts, more, S0, S1, S2, S3, S4, S5, S6, S7, S8, S9, S10, S11, S12, S13, S14, S15, S16, S17, opv, opvs, eget, env0, setD, lenStr, lenSl, isNilP, isNilS, putAt, if_true, if_false, reduceCtorEq, Nat.reduceLeDiff, Nat.reduceEqDiff, Nat.reduceSub, Nat.reduceMul, Nat.reduceAdd])
      | (obtain ⟨y, hy, hw⟩ := prev_of hx hh.1 y1; simp -implicitDefEqProofs only [hh, cond_t, cond_f, hy, hw, hx, nat_nn, Nat.zero_le, List.getElem?_map, Option.map_some, List.length_map, GateTeam.ts, more, S0, S1, S2, S3, S4, S5, S6, S7, S8, S9, S10, S11, S12, S13, S14, S15, S16, S17, opv, opvs, eget, env0, setD, lenStr, lenSl, isNilP, isNilS, putAt, if_true, if_false, reduceCtorEq, Nat.reduceLeDiff, Nat.reduceEqDiff, Nat.reduceSub, Nat.reduceMul, Nat.reduceAdd])
      | ((first | refine fin0 (tb ?_) | refine fin (tb ?_) rfl); (try simp only [Known] at hh); have hno := all_not (l := l.zipIdx) (p := firstP l) (zip_at hx) (by grind [firstP, prevS]); simp [teamsOkI, hno])
      | (first | exact lk_p0 (k + 1) (by simp) (by simp) (by omega) ⟨by omega, all_step (zip_at hx) hall (by (try simp only [Known] at hh); grind [firstP, prevS])⟩ rfl | exact lk_p (k + 1) (by simp) (by simp) hσ rfl (by omega) ⟨by omega, all_step (zip_at hx) hall (by (try simp only [Known] at hh); grind [firstP, prevS])⟩ (by simp [ltE, keep, eget, V.lt]) rfl | exact lk_pm (k + 1) (Nat.le_refl _) (by simp) hσ rfl rfl (by omega) ⟨by omega, all_step (zip_at hx) hall (by (try simp only [Known] at hh); grind [firstP, prevS])⟩ (by simp [ltE, keep, eget, V.lt]) rfl))
  replace hall := all_len hall ((end_of h1 hk).trans (by simp))
  have hfirst : ∀ (i : Nat) (t : GateTeam), l[i]? = some t → firstP l (t, i) = true := all_zip.1 hall
  simp -implicitDefEqProofs only [List.length_map, S0, S1, S2, S3, S4, S5, S6, S7, S8, S9, S10, S11, S12, S13, S14, S15, S16, S17, opv, opvs, eget, env0, setD, lenStr, lenSl, isNilP, isNilS, putAt, if_true, if_false, reduceCtorEq, Nat.reduceLeDiff, Nat.reduceEqDiff, Nat.reduceSub, Nat.reduceMul, Nat.reduceAdd]
  refine loop_p [53, 0, 51, 52] [0, 51, 52] (fun k : Nat => [(53, .t (.int .i64 (k : Nat)))]) (fun k => k ≤ l.length ∧ (l.take k).all (deepP l) = true) (fun k => l.length - k) 0 (by simp) ⟨Nat.zero_le _, rfl⟩ rfl ?_
  rintro k ⟨hk, hall2⟩
  simp -implicitDefEqProofs only [keep, List.length_map, S0, S1, S2, S3, S4, S5, S6, S7, S8, S9, S10, S11, S12, S13, S14, S15, S16, S17, opv, opvs, eget, env0, setD, lenStr, lenSl, isNilP, isNilS, putAt, if_true, if_false, reduceCtorEq, Nat.reduceLeDiff, Nat.reduceEqDiff, Nat.reduceSub, Nat.reduceMul, Nat.reduceAdd]
  refine cond_split (fun h1 => ?_) (fun h1 => ?_)
  · obtain ⟨x, hx, hlt⟩ := at_of h1
    have more := i64_succ (show k < 4611686018427387904 by omega)
    simp -implicitDefEqProofs only [hx, nat_nn, Nat.zero_le, List.getElem?_map, Option.map_some, List.length_map, GateTeam.ts, more, S0, S1, S2, S3, S4, S5, S6, S7, S8, S9, S10, S11, S12, S13, S14, S15, S16, S17, opv, opvs, eget, env0, setD, lenStr, lenSl, isNilP, isNilS, putAt, if_true, if_false, reduceCtorEq, Nat.reduceLeDiff, Nat.reduceEqDiff, Nat.reduceSub, Nat.reduceMul, Nat.reduceAdd]
    refine loop_p [7, 8, 0, 51, 52, 53] [0, 51, 52, 53] (fun g : Nat × List UInt8 => [(7, .t (.int .i64 (g.1 : Nat))), (8, .t (.str g.2))]) (fun g => g.1 ≤ 4 ∧ climb l (4 - g.1) g.2 = climb l 4 x.Over ∧ (g.2 ≠ [] → hasT l g.2 = true)) (fun g => 5 - g.1) (0, x.Over) (by simp) ⟨Nat.zero_le _, rfl, (first_parts (hfirst _ _ hx)).2.2⟩ rfl ?_
    rintro ⟨n, a⟩ ⟨hn4, hcl, hha⟩
    simp only at hn4 hcl hha
    simp -implicitDefEqProofs only [keep, S0, S1, S2, S3, S4, S5, S6, S7, S8, S9, S10, S11, S12, S13, S14, S15, S16, S17, opv, opvs, eget, env0, setD, lenStr, lenSl, isNilP, isNilS, putAt, if_true, if_false, reduceCtorEq, Nat.reduceLeDiff, Nat.reduceEqDiff, Nat.reduceSub, Nat.reduceMul, Nat.reduceAdd]
    have more2 := i64_succ (show n < 4611686018427387904 by omega)
    by_cases ha : a = []
    · have d2 : (a == []) = true := by simp [ha]
      have hd : deepP l x = true := by
        rw [ha, climb_nil] at hcl
        simp [deepP, ← hcl]
      simp -implicitDefEqProofs only [d2, Bool.not_false, Bool.not_true, cond_t, cond_f, more, S0, S1, S2, S3, S4, S5, S6, S7, S8, S9, S10, S11, S12, S13, S14, S15, S16, S17, opv, opvs, eget, env0, setD, lenStr, lenSl, isNilP, isNilS, putAt, if_true, if_false, reduceCtorEq, Nat.reduceLeDiff, Nat.reduceEqDiff, Nat.reduceSub, Nat.reduceMul, Nat.reduceAdd]
      first | exact lk_p0 (k + 1) (by simp) (by simp) (by omega) ⟨by omega, all_step hx hall2 hd⟩ rfl | exact lk_p (k + 1) (by simp) (by simp) hσ rfl (by omega) ⟨by omega, all_step hx hall2 hd⟩ (by simp [ltE, keep, eget, V.lt]) rfl | exact lk_pm (k + 1) (Nat.le_refl _) (by simp) hσ rfl rfl (by omega) ⟨by omega, all_step hx hall2 hd⟩ (by simp [ltE, keep, eget, V.lt]) rfl
    · have d2 : (a == []) = false := by simp [ha]
      simp -implicitDefEqProofs only [d2, Bool.not_false, Bool.not_true, cond_t, cond_f, more2, S0, S1, S2, S3, S4, S5, S6, S7, S8, S9, S10, S11, S12, S13, S14, S15, S16, S17, opv, opvs, eget, env0, setD, lenStr, lenSl, isNilP, isNilS, putAt, if_true, if_false, reduceCtorEq, Nat.reduceLeDiff, Nat.reduceEqDiff, Nat.reduceSub, Nat.reduceMul, Nat.reduceAdd]
      by_cases hn3 : n ≤ 3
      · have d3 : decide (((n + 1 : Nat) : Int) > 4) = false := by simp; omega
        simp -implicitDefEqProofs only [d3, cond_t, cond_f, S0, S1, S2, S3, S4, S5, S6, S7, S8, S9, S10, S11, S12, S13, S14, S15, S16, S17, opv, opvs, eget, env0, setD, lenStr, lenSl, isNilP, isNilS, putAt, if_true, if_false, reduceCtorEq, Nat.reduceLeDiff, Nat.reduceEqDiff, Nat.reduceSub, Nat.reduceMul, Nat.reduceAdd]
        refine call_pure (impl_teamOf l y1 _ _) ?_
        rcases find_over a l 0 with ⟨g1, g2, g3⟩ | ⟨i, t, g1, g2, g3, g4⟩
        · rw [hha ha] at g3; cases g3
        · rw [g2, Nat.zero_add]
          simp -implicitDefEqProofs only [g1, nat_nn, Nat.zero_le, List.getElem?_map, Option.map_some, List.length_map, GateTeam.ts, more2, S0, S1, S2, S3, S4, S5, S6, S7, S8, S9, S10, S11, S12, S13, S14, S15, S16, S17, opv, opvs, eget, env0, setD, lenStr, lenSl, isNilP, isNilS, putAt, if_true, if_false, reduceCtorEq, Nat.reduceLeDiff, Nat.reduceEqDiff, Nat.reduceSub, Nat.reduceMul, Nat.reduceAdd]
          have hc2 : climb l (4 - (n + 1)) t.Over = climb l 4 x.Over := by
            rw [← hcl, show 4 - n = (4 - (n + 1)) + 1 by omega, climb, if_neg ha, g3]
          have hh2 := (first_parts (hfirst _ _ g1)).2.2
          first | exact lk_p0 (n + 1, t.Over) (by simp) (by simp) (by simp only; omega) ⟨by simp only; omega, hc2, hh2⟩ rfl | exact lk_p (n + 1, t.Over) (by simp) (by simp) hσ rfl (by simp only; omega) ⟨by simp only; omega, hc2, hh2⟩ (by simp [ltE, keep, eget, V.lt]) rfl | exact lk_pm (n + 1, t.Over) (Nat.le_refl _) (by simp) hσ rfl rfl (by simp only; omega) ⟨by simp only; omega, hc2, hh2⟩ (by simp [ltE, keep, eget, V.lt]) rfl
      · have hn : n = 4 := by omega
        subst hn
        have d3 : decide (((4 + 1 : Nat) : Int) > 4) = true := by decide
        simp -implicitDefEqProofs only [d3, cond_t, cond_f, S0, S1, S2, S3, S4, S5, S6, S7, S8, S9, S10, S11, S12, S13, S14, S15, S16, S17, opv, opvs, eget, env0, setD, lenStr, lenSl, isNilP, isNilS, putAt, if_true, if_false, reduceCtorEq, Nat.reduceLeDiff, Nat.reduceEqDiff, Nat.reduceSub, Nat.reduceMul, Nat.reduceAdd]
        have hd : deepP l x = false := by
          have : climb l 4 x.Over = a := hcl.symm
          simp [deepP, this, ha]
        have hno := all_not (l := l) (p := deepP l) hx hd
        first | exact fin0 (by simp [teamsOkI, hno]) | exact fin (by simp [teamsOkI, hno]) rfl
  · replace hall2 := all_len hall2 (end_of h1 hk)
    simp -implicitDefEqProofs only [List.length_map, S0, S1, S2, S3, S4, S5, S6, S7, S8, S9, S10, S11, S12, S13, S14, S15, S16, S17, opv, opvs, eget, env0, setD, lenStr, lenSl, isNilP, isNilS, putAt, if_true, if_false, reduceCtorEq, Nat.reduceLeDiff, Nat.reduceEqDiff, Nat.reduceSub, Nat.reduceMul, Nat.reduceAdd]
    first | exact fin0 (by simp [teamsOkI, hall, hall2, hn]) | exact fin (by simp [teamsOkI, hall, hall2, hn]) rfl
theorem impl_GateTeamsOk (l : List GateTeam) (hl : GateTeam.OkS l) (σ : Store) : ACalls Tryd.prog 66 [.t (tGateTeamS l)] σ fun rr σ' => rr = .t (.bool (teamsOk l)) ∧ σ' = σ := by
  rw [← teams_eq]; exact impl_GateTeamsOkI l hl σ

end Go.Proofs.YtcjchimenfadkaaDoor.W
