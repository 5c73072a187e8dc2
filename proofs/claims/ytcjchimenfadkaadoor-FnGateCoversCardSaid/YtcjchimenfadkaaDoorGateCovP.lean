/- What a rule allows. Conditions: none. -/
/- What covering means: the plain law. Conditions: none. -/
import Derived.Test.YtcjchimenfadkaaDoorCovers
import Derived.Test.YtcjchimenfadkaaDoorGateUncT
set_option linter.unusedSimpArgs false
set_option linter.unusedVariables false
set_option linter.defProp false

section
open Go Go.Ab
set_option maxHeartbeats 2000000
namespace Go.Proofs.YtcjchimenfadkaaDoor.W
def reachP (tm : List GateTeam) (r : GateRule) (a : GateAct) : Bool := hasV r.Verbs a.Verb && (r.Kind == [] || r.Kind == a.Kind) && (r.Team == [] || under tm r.Team 4 a.Team) && begs a.Name r.Prefix
def reachI (tm : List GateTeam) (r : GateRule) (a : GateAct) : Bool := hasS (setV r.Verbs) a.Verb && (r.Kind == [] || r.Kind == a.Kind) && (r.Team == [] || under tm r.Team 4 a.Team) && begs a.Name r.Prefix
def allowsB (tm : List GateTeam) (r : GateRule) (a : GateAct) : Bool := teamsOk tm && ruleOk r && reachP tm r a
theorem rule_16 {r : GateRule} (h : ruleOk r = true) : ∀ v ∈ r.Verbs, 0 ≤ v ∧ v < 16 := by
  intro v hv
  obtain ⟨i, hi, rfl⟩ := List.getElem_of_mem hv
  have h1 : r.Verbs.zipIdx.all (verbP r.Verbs) = true := by grind [ruleOk]
  have h2 := List.all_eq_true.1 h1 (r.Verbs[i], i) (by rw [List.mem_zipIdx_iff_getElem?]; simp [hi])
  simp only [verbP, wi, Bool.and_eq_true, decide_eq_true_eq] at h2
  omega
theorem set_has {l : List Int} (h : ∀ v ∈ l, 0 ≤ v ∧ v < 16) (v : Int) : hasS (setV l) v = hasV l v := by
  by_cases hv : 0 ≤ v ∧ v < 16
  · exact has_set l v hv.1 hv.2
  · have h1 : hasV l v = false := by
      rw [hasV, Bool.not_eq_false', List.all_eq_true]
      intro x hx
      have := h x hx
      have hne : x ≠ v := fun e => hv (e ▸ this)
      simp [noV, hne]
    have h2 : hasS (setV l) v = false := by
      unfold hasS
      by_cases h0 : 0 ≤ v
      · have : ¬ v < 16 := fun h => hv ⟨h0, h⟩
        simp [this]
      · simp [h0]
    rw [h1, h2]
theorem reach_eq {tm : List GateTeam} {r : GateRule} {a : GateAct} (h : ruleOk r = true) : reachI tm r a = reachP tm r a := by
  rw [reachI, reachP, set_has (rule_16 h)]

def c__impl_GateRule__reaches : C := (.seq (.ops [⟨(some 3), none, (.box (.t 0))⟩, ⟨(some 5), none, (.box (.t 2))⟩, ⟨(some 6), none, (.mv (.c (.t (.bool false))))⟩]) (.seq (.drawn [(.mk 0 false ⟨(some 7), none, (.fieldAddr 0 (.t 3))⟩ []), (.mk 1 false ⟨(some 8), none, (.load none (.t 7))⟩ []), (.mk 3 false ⟨(some 10), none, (.fieldAddr 0 (.t 5))⟩ []), (.mk 4 false ⟨(some 11), none, (.load none (.t 10))⟩ []), (.mk 2 true ⟨(some 9), none, (.call (.c (.fn (.func 100) [])) [(.t 8)])⟩ [⟨(some 11), none, (.load none (.t 10))⟩]), (.mk 5 false ⟨(some 12), none, (.call (.c (.fn (.func 101) [])) [(.t 9), (.t 11)])⟩ []), (.mk 6 false ⟨(some 13), none, (.mv (.t 12))⟩ []), (.mk 7 false ⟨(some 14), (some ⟨13, true⟩), (.fieldAddr 1 (.t 3))⟩ []), (.mk 8 false ⟨(some 15), (some ⟨13, true⟩), (.load none (.t 14))⟩ []), (.mk 9 false ⟨(some 16), (some ⟨13, true⟩), (.bin .eql (.t 15) (.c (.t (.str []))))⟩ []), (.mk 10 false ⟨(some 17), (some ⟨13, true⟩), (.mv (.t 16))⟩ []), (.mk 11 false ⟨(some 18), (some ⟨17, false⟩), (.fieldAddr 1 (.t 3))⟩ []), (.mk 12 false ⟨(some 19), (some ⟨17, false⟩), (.load none (.t 18))⟩ []), (.mk 13 false ⟨(some 20), (some ⟨17, false⟩), (.fieldAddr 1 (.t 5))⟩ []), (.mk 14 false ⟨(some 21), (some ⟨17, false⟩), (.load none (.t 20))⟩ []), (.mk 15 false ⟨(some 22), (some ⟨17, false⟩), (.bin .eql (.t 19) (.t 21))⟩ []), (.mk 16 false ⟨(some 23), (some ⟨13, true⟩), (.pick (.t 17) (.c (.t (.bool true))) (.t 22))⟩ []), (.mk 17 false ⟨(some 24), none, (.pick (.t 13) (.t 23) (.c (.t (.bool false))))⟩ []), (.mk 18 false ⟨(some 25), none, (.mv (.t 24))⟩ []), (.mk 19 false ⟨(some 26), (some ⟨25, true⟩), (.fieldAddr 2 (.t 3))⟩ []), (.mk 20 false ⟨(some 27), (some ⟨25, true⟩), (.load none (.t 26))⟩ []), (.mk 21 false ⟨(some 28), (some ⟨25, true⟩), (.bin .eql (.t 27) (.c (.t (.str []))))⟩ []), (.mk 22 false ⟨(some 29), (some ⟨25, true⟩), (.mv (.t 28))⟩ []), (.mk 23 false ⟨(some 30), (some ⟨29, false⟩), (.mv (.t 1))⟩ []), (.mk 24 false ⟨(some 31), (some ⟨29, false⟩), (.fieldAddr 2 (.t 5))⟩ []), (.mk 25 false ⟨(some 32), (some ⟨29, false⟩), (.load none (.t 31))⟩ []), (.mk 26 false ⟨(some 33), (some ⟨29, false⟩), (.fieldAddr 2 (.t 3))⟩ []), (.mk 27 false ⟨(some 34), (some ⟨29, false⟩), (.load none (.t 33))⟩ []), (.mk 28 false ⟨(some 35), (some ⟨29, false⟩), (.call (.c (.fn (.func 102) [])) [(.t 30), (.t 32), (.t 34)])⟩ []), (.mk 29 false ⟨(some 36), (some ⟨25, true⟩), (.pick (.t 29) (.c (.t (.bool true))) (.t 35))⟩ []), (.mk 30 false ⟨(some 37), none, (.pick (.t 25) (.t 36) (.c (.t (.bool false))))⟩ []), (.mk 31 false ⟨(some 38), none, (.mv (.t 37))⟩ []), (.mk 32 false ⟨(some 39), (some ⟨38, true⟩), (.fieldAddr 3 (.t 5))⟩ []), (.mk 33 false ⟨(some 40), (some ⟨38, true⟩), (.load none (.t 39))⟩ []), (.mk 34 false ⟨(some 41), (some ⟨38, true⟩), (.fieldAddr 3 (.t 3))⟩ []), (.mk 35 false ⟨(some 42), (some ⟨38, true⟩), (.load none (.t 41))⟩ []), (.mk 36 false ⟨(some 43), (some ⟨38, true⟩), (.call (.c (.fn (.func 103) [])) [(.t 40), (.t 42)])⟩ []), (.mk 37 false ⟨(some 44), none, (.pick (.t 38) (.t 43) (.c (.t (.bool false))))⟩ []), (.mk 38 false ⟨(some 6), none, (.mv (.t 44))⟩ [])]) .ret))
theorem k__impl_GateRule__reaches : comp Tryd.prog 45 (Tryd.f68.body.getD .skip) = some c__impl_GateRule__reaches := by kernel_rfl

theorem _impl_GateRule__reaches (r : GateRule) (hr : r.Ok) (tm : List GateTeam) (ht : GateTeam.OkS tm) (a : GateAct) (ha : a.Ok)  (σ : Store) : ACalls Tryd.prog 68 [.agg (r.vs), .t (tGateTeamS tm), .agg (a.vs)] σ fun rr σ' => rr = .t (.bool (reachI tm r a)) ∧ σ' = σ := by
  refine acalls_of Tryd.func68 (by decide +kernel) (code := Tryd.f68.body.getD .skip) (n := 45) (c := c__impl_GateRule__reaches) (rs := [(.tmp 6)]) rfl rfl k__impl_GateRule__reaches (by kernel_rfl) (by simp) (fun hσ => ?_)
  have hh : True := trivial
  have fin : ∀ {u : V} {τ : Store}, u = .t (.bool (reachI tm r a)) → u.lt σ.length = true → retV σ.length (fun rr σ' => rr = .t (.bool (reachI tm r a)) ∧ σ' = σ) (σ ++ τ) (some [u]) := fun h h2 => ret_same rfl hσ h2 ⟨h, rfl⟩
  have fin0 : ∀ {u : V}, u = .t (.bool (reachI tm r a)) → retV σ.length (fun rr σ' => rr = .t (.bool (reachI tm r a)) ∧ σ' = σ) σ (some [u]) := fun h => ret_same0 rfl ⟨h, rfl⟩
  simp -implicitDefEqProofs only [c__impl_GateRule__reaches, GateRule.vs, GateAct.vs, S0, S1, S2, S3, S4, S5, S6, S7, S8, S9, S10, S11, S12, S13, S14, S15, S16, S17, opv, opvs, eget, env0, setD, lenStr, lenSl, isNilP, isNilS, putAt, if_true, if_false, reduceCtorEq, Nat.reduceLeDiff, Nat.reduceEqDiff, Nat.reduceSub, Nat.reduceMul, Nat.reduceAdd]
  refine call_pure (impl_setOf r.Verbs hr.Verbs.1 _) ?_
  simp -implicitDefEqProofs only [S0, S1, S2, S3, S4, S5, S6, S7, S8, S9, S10, S11, S12, S13, S14, S15, S16, S17, opv, opvs, eget, env0, setD, lenStr, lenSl, isNilP, isNilS, putAt, if_true, if_false, reduceCtorEq, Nat.reduceLeDiff, Nat.reduceEqDiff, Nat.reduceSub, Nat.reduceMul, Nat.reduceAdd]
  refine call_pure (_impl_verbSet__has (setV r.Verbs) a.Verb _) ?_
  simp -implicitDefEqProofs only [S0, S1, S2, S3, S4, S5, S6, S7, S8, S9, S10, S11, S12, S13, S14, S15, S16, S17, opv, opvs, eget, env0, setD, lenStr, lenSl, isNilP, isNilS, putAt, if_true, if_false, reduceCtorEq, Nat.reduceLeDiff, Nat.reduceEqDiff, Nat.reduceSub, Nat.reduceMul, Nat.reduceAdd]
  repeat' (first
    | ((with_reducible refine cond_known (fun h => ?_) (fun h => ?_)) <;> (replace hh := And.intro h hh; clear h; simp -implicitDefEqProofs only [hh, cond_t, cond_f, S0, S1, S2, S3, S4, S5, S6, S7, S8, S9, S10, S11, S12, S13, S14, S15, S16, S17, opv, opvs, eget, env0, setD, lenStr, lenSl, isNilP, isNilS, putAt, if_true, if_false, reduceCtorEq, Nat.reduceLeDiff, Nat.reduceEqDiff, Nat.reduceSub, Nat.reduceMul, Nat.reduceAdd]))
    | ((with_reducible refine call_pure (impl_GateUnder tm a.Team r.Team ht.1 _) ?_); simp -implicitDefEqProofs only [hh, cond_t, cond_f, S0, S1, S2, S3, S4, S5, S6, S7, S8, S9, S10, S11, S12, S13, S14, S15, S16, S17, opv, opvs, eget, env0, setD, lenStr, lenSl, isNilP, isNilS, putAt, if_true, if_false, reduceCtorEq, Nat.reduceLeDiff, Nat.reduceEqDiff, Nat.reduceSub, Nat.reduceMul, Nat.reduceAdd])
    | ((with_reducible refine call_pure (strings_HasPrefix a.Name r.Prefix _) ?_); simp -implicitDefEqProofs only [hh, cond_t, cond_f, S0, S1, S2, S3, S4, S5, S6, S7, S8, S9, S10, S11, S12, S13, S14, S15, S16, S17, opv, opvs, eget, env0, setD, lenStr, lenSl, isNilP, isNilS, putAt, if_true, if_false, reduceCtorEq, Nat.reduceLeDiff, Nat.reduceEqDiff, Nat.reduceSub, Nat.reduceMul, Nat.reduceAdd])
    | (first | ((with_reducible refine fin0 ?_); refine tb ?_; (try simp only [Known] at hh); grind [reachI]) | ((with_reducible refine fin ?_ ?_); rotate_left; exact rfl; refine tb ?_; (try simp only [Known] at hh); grind [reachI])))

def c_impl_GateAllows : C := (.seq (.ops [⟨(some 4), none, (.box (.t 1))⟩, ⟨(some 5), none, (.box (.t 2))⟩, ⟨(some 6), none, (.mv (.c (.t (.bool false))))⟩]) (.seq (.seq (.ops [⟨(some 8), none, (.mv (.t 0))⟩, ⟨(some 9), none, (.call (.c (.fn (.func 66) [])) [(.t 8)])⟩, ⟨(some 10), none, (.un .not (.t 9))⟩, ⟨(some 11), none, (.mv (.t 10))⟩, ⟨(some 12), (some ⟨11, false⟩), (.load (some 4) (.t 4))⟩, ⟨(some 13), (some ⟨11, false⟩), (.call (.c (.fn (.func 67) [])) [(.t 12)])⟩, ⟨(some 14), (some ⟨11, false⟩), (.un .not (.t 13))⟩, ⟨(some 15), none, (.pick (.t 11) (.c (.t (.bool true))) (.t 14))⟩]) (.cond (.t 15) (.seq (.ops [⟨(some 6), none, (.mv (.c (.t (.bool false))))⟩]) .ret) .skip)) (.seq (.ops [⟨(some 16), none, (.load (some 4) (.t 4))⟩, ⟨(some 17), none, (.fnb 68 [(.t 16)])⟩, ⟨(some 7), none, (.mv (.t 17))⟩]) (.seq (.ops [⟨(some 18), none, (.mv (.t 7))⟩, ⟨(some 19), none, (.mv (.t 0))⟩, ⟨(some 20), none, (.load (some 4) (.t 5))⟩, ⟨(some 21), none, (.call (.t 18) [(.t 19), (.t 20)])⟩, ⟨(some 6), none, (.mv (.t 21))⟩]) .ret))))
theorem k_impl_GateAllows : comp Tryd.prog 22 (Tryd.f32.body.getD .skip) = some c_impl_GateAllows := by kernel_rfl

theorem impl_GateAllows (tm : List GateTeam) (ht : GateTeam.OkS tm) (r : GateRule) (hr : r.Ok) (a : GateAct) (ha : a.Ok)  (σ : Store) : ACalls Tryd.prog 32 [.t (tGateTeamS tm), .agg (r.vs), .agg (a.vs)] σ fun rr σ' => rr = .t (.bool (allowsB tm r a)) ∧ σ' = σ := by
  refine acalls_of Tryd.func32 (by decide +kernel) (code := Tryd.f32.body.getD .skip) (n := 22) (c := c_impl_GateAllows) (rs := [(.tmp 6)]) rfl rfl k_impl_GateAllows (by kernel_rfl) (by simp) (fun hσ => ?_)
  have hh : True := trivial
  have fin : ∀ {u : V} {τ : Store}, u = .t (.bool (allowsB tm r a)) → u.lt σ.length = true → retV σ.length (fun rr σ' => rr = .t (.bool (allowsB tm r a)) ∧ σ' = σ) (σ ++ τ) (some [u]) := fun h h2 => ret_same rfl hσ h2 ⟨h, rfl⟩
  have fin0 : ∀ {u : V}, u = .t (.bool (allowsB tm r a)) → retV σ.length (fun rr σ' => rr = .t (.bool (allowsB tm r a)) ∧ σ' = σ) σ (some [u]) := fun h => ret_same0 rfl ⟨h, rfl⟩
  simp -implicitDefEqProofs only [c_impl_GateAllows, S0, S1, S2, S3, S4, S5, S6, S7, S8, S9, S10, S11, S12, S13, S14, S15, S16, S17, opv, opvs, eget, env0, setD, lenStr, lenSl, isNilP, isNilS, putAt, if_true, if_false, reduceCtorEq, Nat.reduceLeDiff, Nat.reduceEqDiff, Nat.reduceSub, Nat.reduceMul, Nat.reduceAdd]
  refine call_pure (impl_GateTeamsOk tm ht _) ?_
  rcases h1 : teamsOk tm with _ | _
  · simp -implicitDefEqProofs only [cond_t, cond_f, S0, S1, S2, S3, S4, S5, S6, S7, S8, S9, S10, S11, S12, S13, S14, S15, S16, S17, opv, opvs, eget, env0, setD, lenStr, lenSl, isNilP, isNilS, putAt, if_true, if_false, reduceCtorEq, Nat.reduceLeDiff, Nat.reduceEqDiff, Nat.reduceSub, Nat.reduceMul, Nat.reduceAdd]
    first | exact fin0 (tb (by simp [allowsB, h1])) | exact fin (tb (by simp [allowsB, h1])) rfl
  simp -implicitDefEqProofs only [cond_t, cond_f, S0, S1, S2, S3, S4, S5, S6, S7, S8, S9, S10, S11, S12, S13, S14, S15, S16, S17, opv, opvs, eget, env0, setD, lenStr, lenSl, isNilP, isNilS, putAt, if_true, if_false, reduceCtorEq, Nat.reduceLeDiff, Nat.reduceEqDiff, Nat.reduceSub, Nat.reduceMul, Nat.reduceAdd]
  refine call_pure (_impl_GateRule__ok r hr _) ?_
  rcases h2 : ruleOk r with _ | _
  · simp -implicitDefEqProofs only [cond_t, cond_f, S0, S1, S2, S3, S4, S5, S6, S7, S8, S9, S10, S11, S12, S13, S14, S15, S16, S17, opv, opvs, eget, env0, setD, lenStr, lenSl, isNilP, isNilS, putAt, if_true, if_false, reduceCtorEq, Nat.reduceLeDiff, Nat.reduceEqDiff, Nat.reduceSub, Nat.reduceMul, Nat.reduceAdd]
    first | exact fin0 (tb (by simp [allowsB, h1, h2])) | exact fin (tb (by simp [allowsB, h1, h2])) rfl
  simp -implicitDefEqProofs only [cond_t, cond_f, S0, S1, S2, S3, S4, S5, S6, S7, S8, S9, S10, S11, S12, S13, S14, S15, S16, S17, opv, opvs, eget, env0, setD, lenStr, lenSl, isNilP, isNilS, putAt, if_true, if_false, reduceCtorEq, Nat.reduceLeDiff, Nat.reduceEqDiff, Nat.reduceSub, Nat.reduceMul, Nat.reduceAdd]
  refine call_pure (_impl_GateRule__reaches r hr tm ht a ha _) ?_
  rw [reach_eq h2]
  try simp -implicitDefEqProofs only [S0, S1, S2, S3, S4, S5, S6, S7, S8, S9, S10, S11, S12, S13, S14, S15, S16, S17, opv, opvs, eget, env0, setD, lenStr, lenSl, isNilP, isNilS, putAt, if_true, if_false, reduceCtorEq, Nat.reduceLeDiff, Nat.reduceEqDiff, Nat.reduceSub, Nat.reduceMul, Nat.reduceAdd]
  first | exact fin0 (tb (by simp [allowsB, h1, h2])) | exact fin (tb (by simp [allowsB, h1, h2])) rfl

end Go.Proofs.YtcjchimenfadkaaDoor.W

end


section
open Go Go.Ab
set_option maxHeartbeats 2000000
namespace Go.Proofs.YtcjchimenfadkaaDoor.W
theorem begs_iff {s p : List UInt8} : begs s p = true ↔ p <+: s := by
  rw [begs, Bool.and_eq_true, decide_eq_true_eq, beq_iff_eq, List.prefix_iff_eq_take]
  constructor
  · rintro ⟨_, h⟩; exact h.symm
  · intro h
    exact ⟨by rw [h, List.length_take]; exact Nat.min_le_right _ _, h.symm⟩
theorem begs_trans {s p q : List UInt8} (h1 : begs s p = true) (h2 : begs p q = true) : begs s q = true :=
  begs_iff.2 ((begs_iff.1 h2).trans (begs_iff.1 h1))
theorem begs_refl (s : List UInt8) : begs s s = true := begs_iff.2 (List.prefix_refl s)
theorem hasV_mem {l : List Int} {v : Int} : hasV l v = true ↔ v ∈ l := by
  rw [hasV, Bool.not_eq_true', List.all_eq_false]
  constructor
  · rintro ⟨x, hx, h⟩
    have : x = v := by simpa [noV] using h
    exact this ▸ hx
  · intro h
    exact ⟨v, h, by simp [noV]⟩
/-! ### teams over teams -/
theorem over_no {a : List UInt8} : ∀ {l : List GateTeam}, (∀ t ∈ l, t.Name ≠ a) → overOf a l = []
  | [], _ => rfl
  | t :: l, h => by
    rw [overOf, if_neg (h t (by simp))]
    exact over_no fun t ht => h t (by simp [ht])
theorem team_first {l : List GateTeam} (h : teamsOk l = true) {t : GateTeam} (ht : t ∈ l) : nameOk t.Name = true ∧ climb l 5 t.Name = [] := by
  simp only [teamsOk, Bool.and_eq_true] at h
  obtain ⟨i, hi, rfl⟩ := List.getElem_of_mem ht
  have := all_zip.1 h.2 i l[i] (List.getElem?_eq_getElem hi)
  simp only [teamP, firstP, Bool.and_eq_true, beq_iff_eq] at this
  exact ⟨this.1.1.1, this.2⟩
theorem nm_ne {s : List UInt8} (h : nameOk s = true) : s ≠ [] := by
  rintro rfl
  simp [nameOk, wi] at h
theorem over_nil {l : List GateTeam} (h : teamsOk l = true) : overOf [] l = [] := over_no fun t ht => nm_ne (team_first h ht).1
theorem climb_add (l : List GateTeam) : ∀ (i j : Nat) (a : List UInt8), climb l (i + j) a = climb l j (climb l i a)
  | 0, j, a => by simp [climb]
  | i + 1, j, a => by
    rw [show i + 1 + j = (i + j) + 1 by omega, climb, climb]
    split
    · rw [climb_nil]
    · exact climb_add l i j _
theorem climb_top {l : List GateTeam} (h : teamsOk l = true) (a : List UInt8) : climb l 5 a = [] := by
  by_cases hm : ∃ t ∈ l, t.Name = a
  · obtain ⟨t, ht, rfl⟩ := hm
    exact (team_first h ht).2
  · have h0 : overOf a l = [] := over_no fun t ht e => hm ⟨t, ht, e⟩
    rw [climb]
    split
    · rfl
    · rw [h0, climb_nil]
theorem under_climb {l : List GateTeam} (h0 : overOf [] l = []) {b : List UInt8} (hb : b ≠ []) : ∀ (f : Nat) (a : List UInt8), under l b f a = true → ∃ i, i ≤ f ∧ climb l i a = b
  | 0, a, h => ⟨0, Nat.le_refl _, by simpa [under, climb] using h⟩
  | f + 1, a, h => by
    rw [under] at h
    split at h
    · rename_i e; exact ⟨0, Nat.zero_le _, by simpa [climb] using e⟩
    · split at h
      · cases h
      · rename_i hab ho
        obtain ⟨i, hi, hc⟩ := under_climb h0 hb f _ h
        refine ⟨i + 1, by omega, ?_⟩
        rw [climb, if_neg (fun e => ho (by rw [e]; exact h0))]
        exact hc
theorem climb_under {l : List GateTeam} {b : List UInt8} (hb : b ≠ []) : ∀ (f i : Nat) (a : List UInt8), i ≤ f → climb l i a = b → under l b f a = true
  | 0, i, a, hi, h => by
    obtain rfl : i = 0 := by omega
    simpa [under, climb] using h
  | f + 1, i, a, hi, h => by
    rw [under]
    split
    · rfl
    · rename_i hab
      cases i with
      | zero => exact (hab (by simpa [climb] using h)).elim
      | succ i =>
        rw [climb] at h
        split at h
        · exact (hb h.symm).elim
        · split
          · rename_i ho
            rw [ho, climb_nil] at h
            exact (hb h.symm).elim
          · exact climb_under hb f i _ (by omega) h
theorem under_trans {l : List GateTeam} (h : teamsOk l = true) {a b c : List UInt8} (hb : b ≠ []) (hc : c ≠ []) (h1 : under l c 4 a = true) (h2 : under l b 4 c = true) : under l b 4 a = true := by
  obtain ⟨i, hi, e1⟩ := under_climb (over_nil h) hc 4 a h1
  obtain ⟨j, hj, e2⟩ := under_climb (over_nil h) hb 4 c h2
  have e3 : climb l (i + j) a = b := by rw [climb_add, e1, e2]
  refine climb_under hb 4 (i + j) a ?_ e3
  rcases Nat.lt_or_ge 4 (i + j) with h' | h'
  · rw [show i + j = 5 + (i + j - 5) by omega, climb_add, climb_top h, climb_nil] at e3
    exact (hb e3.symm).elim
  · exact h'
theorem under_refl (l : List GateTeam) (a : List UInt8) : under l a 4 a = true := by simp [under]
/-! ### what covers -/
theorem wider_iff {tm : List GateTeam} {r : GateRule} {v : Int} {q : GateRule} : widerP tm r v q = true ↔ v ∈ q.Verbs ∧ (q.Kind = [] ∨ q.Kind = r.Kind) ∧ (q.Team = [] ∨ (r.Team ≠ [] ∧ under tm q.Team 4 r.Team = true)) ∧ begs r.Prefix q.Prefix = true := by
  simp only [widerP, Bool.and_eq_true, Bool.or_eq_true, beq_iff_eq, Bool.not_eq_true', beq_eq_false_iff_ne, hasV_mem]
  constructor
  · rintro ⟨⟨⟨h1, h2⟩, h3⟩, h4⟩; exact ⟨h1, h2, h3, h4⟩
  · rintro ⟨h1, h2, h3, h4⟩; exact ⟨⟨⟨h1, h2⟩, h3⟩, h4⟩
theorem reach_iff {tm : List GateTeam} {r : GateRule} {a : GateAct} : reachP tm r a = true ↔ a.Verb ∈ r.Verbs ∧ (r.Kind = [] ∨ r.Kind = a.Kind) ∧ (r.Team = [] ∨ under tm r.Team 4 a.Team = true) ∧ begs a.Name r.Prefix = true := by
  simp only [reachP, Bool.and_eq_true, Bool.or_eq_true, beq_iff_eq, hasV_mem]
  constructor
  · rintro ⟨⟨⟨h1, h2⟩, h3⟩, h4⟩; exact ⟨h1, h2, h3, h4⟩
  · rintro ⟨h1, h2, h3, h4⟩; exact ⟨⟨⟨h1, h2⟩, h3⟩, h4⟩
theorem lack_zero {tm : List GateTeam} {rules : List GateRule} {r : GateRule} : ∀ {vs : List Int}, (∀ v ∈ vs, v ≠ 0) → (lackOf tm rules r vs = 0 ↔ ∀ v ∈ vs, ∃ x ∈ rules, widerP tm r v x = true)
  | [], _ => by simp [lackOf]
  | v :: vs, h => by
    have ih := lack_zero (tm := tm) (rules := rules) (r := r) (vs := vs) fun u hu => h u (by simp [hu])
    rw [lackOf]
    split
    · rename_i ha
      constructor
      · intro e; exact (h v (by simp) e).elim
      · intro hall
        obtain ⟨x, hx, hw⟩ := hall v (by simp)
        have := List.all_eq_true.1 ha x hx
        simp [noW, hw] at this
    · rename_i ha
      rw [ih]
      constructor
      · intro hall u hu
        rcases List.mem_cons.1 hu with rfl | hu
        · have hf : rules.all (noW tm r u) = false := by simpa using ha
          obtain ⟨x, hx, hn⟩ := List.all_eq_false.1 hf
          exact ⟨x, hx, by simpa [noW] using hn⟩
        · exact hall u hu
      · intro hall u hu
        exact hall u (by simp [hu])
theorem lack_in {tm : List GateTeam} {rules : List GateRule} {r : GateRule} : ∀ {vs : List Int}, lackOf tm rules r vs ≠ 0 → lackOf tm rules r vs ∈ vs ∧ rules.all (noW tm r (lackOf tm rules r vs)) = true
  | [], h => by simp [lackOf] at h
  | v :: vs, h => by
    rw [lackOf] at h ⊢
    split
    · rename_i ha; exact ⟨by simp, ha⟩
    · rename_i ha
      rw [if_neg ha] at h
      have := lack_in h
      exact ⟨by simp [this.1], this.2⟩
theorem verbs_ne {r : GateRule} (h : ruleOk r = true) : ∀ v ∈ r.Verbs, v ≠ 0 := by
  intro v hv
  obtain ⟨i, hi, rfl⟩ := List.getElem_of_mem hv
  have h1 : r.Verbs.zipIdx.all (verbP r.Verbs) = true := by grind [ruleOk]
  have h2 := List.all_eq_true.1 h1 (r.Verbs[i], i) (by rw [List.mem_zipIdx_iff_getElem?]; simp [hi])
  simp only [verbP, wi, Bool.and_eq_true, decide_eq_true_eq] at h2
  omega
theorem rule_verbs {r : GateRule} (h : ruleOk r = true) : r.Verbs ≠ [] := by
  intro e
  simp [ruleOk, e] at h
theorem all_parts {tm : List GateTeam} {rules : List GateRule} {q : GateRule} (h : allRules tm rules q = true) : teamsOk tm = true ∧ ruleOk q = true ∧ ∀ x ∈ rules, ruleOk x = true := by
  simp only [allRules, Bool.and_eq_true] at h
  exact ⟨h.1.1, h.1.2, List.all_eq_true.1 h.2⟩
theorem covers_iff {tm : List GateTeam} {rules : List GateRule} {q : GateRule} : coversB tm rules q = true ↔ allRules tm rules q = true ∧ ∀ v ∈ q.Verbs, ∃ x ∈ rules, widerP tm q v x = true := by
  rw [coversB, Bool.and_eq_true, beq_iff_eq]
  constructor
  · rintro ⟨h1, h2⟩; exact ⟨h1, (lack_zero (verbs_ne (all_parts h1).2.1)).1 h2⟩
  · rintro ⟨h1, h2⟩; exact ⟨h1, (lack_zero (verbs_ne (all_parts h1).2.1)).2 h2⟩
theorem all_more {tm : List GateTeam} {rules : List GateRule} {q : GateRule} : allRules tm (rules ++ [q]) q = allRules tm rules q := by
  simp only [allRules, List.all_append, List.all_cons, List.all_nil, Bool.and_true]
  cases teamsOk tm <;> cases ruleOk q <;> cases rules.all ruleOk <;> rfl
theorem wider_self {tm : List GateTeam} {q : GateRule} {v : Int} (h : v ∈ q.Verbs) : widerP tm q v q = true :=
  wider_iff.2 ⟨h, .inr rfl, by by_cases e : q.Team = []; exact .inl e; exact .inr ⟨e, under_refl _ _⟩, begs_refl _⟩
/-- With itself among the rules, a rule is covered. -/
theorem covers_more (tm : List GateTeam) (rules : List GateRule) (q : GateRule) : coversB tm (rules ++ [q]) q = allRules tm rules q := by
  rw [Bool.eq_iff_iff, covers_iff, all_more]
  exact ⟨fun h => h.1, fun h => ⟨h, fun v hv => ⟨q, by simp, wider_self hv⟩⟩⟩
theorem wider_trans {tm : List GateTeam} (ht : teamsOk tm = true) {q x y : GateRule} {v : Int} (h1 : widerP tm q v x = true) (h2 : widerP tm x v y = true) : widerP tm q v y = true := by
  obtain ⟨a1, a2, a3, a4⟩ := wider_iff.1 h1
  obtain ⟨b1, b2, b3, b4⟩ := wider_iff.1 h2
  refine wider_iff.2 ⟨b1, ?_, ?_, begs_trans a4 b4⟩
  · rcases b2 with b2 | b2
    · exact .inl b2
    · rw [b2]; exact a2
  · rcases b3 with b3 | ⟨b3, b5⟩
    · exact .inl b3
    · rcases a3 with a3 | ⟨a3, a5⟩
      · exact (b3 a3).elim
      · by_cases e : y.Team = []
        · exact .inl e
        · exact .inr ⟨a3, under_trans ht e b3 a5 b5⟩
/-- What is covered by rules that others cover is covered by these. -/
theorem covers_trans {tm : List GateTeam} {rules others : List GateRule} {q : GateRule} (h : coversB tm rules q = true) (k : ∀ x ∈ rules, coversB tm others x = true) : coversB tm others q = true := by
  obtain ⟨h1, h2⟩ := covers_iff.1 h
  obtain ⟨t1, t2, t3⟩ := all_parts h1
  have ho : allRules tm others q = true := by
    obtain ⟨v, hv⟩ := List.exists_mem_of_ne_nil _ (rule_verbs t2)
    obtain ⟨x, hx, _⟩ := h2 v hv
    obtain ⟨o1, o2, o3⟩ := all_parts (covers_iff.1 (k x hx)).1
    simp only [allRules, Bool.and_eq_true]
    exact ⟨⟨o1, t2⟩, List.all_eq_true.2 o3⟩
  refine covers_iff.2 ⟨ho, fun v hv => ?_⟩
  obtain ⟨x, hx, hw⟩ := h2 v hv
  obtain ⟨y, hy, hw2⟩ := (covers_iff.1 (k x hx)).2 v (wider_iff.1 hw).1
  exact ⟨y, hy, wider_trans t1 hw hw2⟩
/-- What a covered rule allows, one of the rules allows. -/
theorem covers_sound {tm : List GateTeam} {rules : List GateRule} {q : GateRule} {a : GateAct} (h : coversB tm rules q = true) (ha : allowsB tm q a = true) : ∃ x ∈ rules, allowsB tm x a = true := by
  obtain ⟨h1, h2⟩ := covers_iff.1 h
  obtain ⟨t1, t2, t3⟩ := all_parts h1
  simp only [allowsB, Bool.and_eq_true] at ha
  obtain ⟨b1, b2, b3, b4⟩ := reach_iff.1 ha.2
  obtain ⟨x, hx, hw⟩ := h2 _ b1
  obtain ⟨a1, a2, a3, a4⟩ := wider_iff.1 hw
  refine ⟨x, hx, ?_⟩
  simp only [allowsB, Bool.and_eq_true]
  refine ⟨⟨t1, t3 x hx⟩, reach_iff.2 ⟨a1, ?_, ?_, begs_trans b4 a4⟩⟩
  · rcases a2 with a2 | a2
    · exact .inl a2
    · rw [a2]; exact b2
  · rcases a3 with a3 | ⟨a3, a5⟩
    · exact .inl a3
    · rcases b3 with b3 | b3
      · exact (a3 b3).elim
      · by_cases e : x.Team = []
        · exact .inl e
        · exact .inr (under_trans t1 e a3 b3 a5)
theorem newN_not (c : List UInt8) (used : List (List UInt8)) : newN c used ∉ used := fun h => by
  have := (firstN_free c used).1
  rw [show nameN c (firstN c used) = newN c used from rfl, hasW_mem.2 h] at this
  cases this
/-- The act that is not covered: the rule allows it, none of the others does. -/
theorem unc_act {tm : List GateTeam} {rules : List GateRule} {q : GateRule} (h : uncB tm rules q = true) : allowsB tm q (uncA tm rules q) = true ∧ ∀ x ∈ rules, allowsB tm x (uncA tm rules q) = false := by
  have hA : uncA tm rules q = ⟨lackOf tm rules q q.Verbs, if q.Kind = [] then newN [107] (kindsR rules) else q.Kind, if q.Team = [] then newN [116] (teamsR rules tm) else q.Team, q.Prefix⟩ := by rw [uncA, if_pos h]
  simp only [uncB, Bool.and_eq_true, Bool.not_eq_true', beq_eq_false_iff_ne] at h
  obtain ⟨t1, t2, t3⟩ := all_parts h.1
  obtain ⟨l1, l2⟩ := lack_in h.2
  rw [hA]
  refine ⟨?_, fun x hx => ?_⟩
  · simp only [allowsB, Bool.and_eq_true]
    refine ⟨⟨t1, t2⟩, reach_iff.2 ⟨l1, ?_, ?_, begs_refl _⟩⟩
    · by_cases e : q.Kind = []
      · exact .inl e
      · exact .inr (by simp [e])
    · by_cases e : q.Team = []
      · exact .inl e
      · exact .inr (by simp [e, under_refl])
  · rcases hr : allowsB tm x _ with _ | _
    · rfl
    · exfalso
      simp only [allowsB, Bool.and_eq_true] at hr
      obtain ⟨b1, b2, b3, b4⟩ := reach_iff.1 hr.2
      simp only at b1 b2 b3 b4
      have hn := List.all_eq_true.1 l2 x hx
      have hw : widerP tm q (lackOf tm rules q q.Verbs) x = true := by
        refine wider_iff.2 ⟨b1, ?_, ?_, b4⟩
        · rcases b2 with b2 | b2
          · exact .inl b2
          · by_cases e : q.Kind = []
            · rw [if_pos e] at b2
              exact (newN_not [107] (kindsR rules) (b2 ▸ List.mem_map.2 ⟨x, hx, rfl⟩)).elim
            · rw [if_neg e] at b2; exact .inr b2
        · rcases b3 with b3 | b3
          · exact .inl b3
          · by_cases e : q.Team = []
            · rw [if_pos e] at b3
              by_cases ex : x.Team = []
              · exact .inl ex
              · exfalso
                have hno : overOf (newN [116] (teamsR rules tm)) tm = [] := over_no fun t ht en => newN_not [116] (teamsR rules tm) (en ▸ (List.mem_append.2 (.inr (List.mem_map.2 ⟨t, ht, rfl⟩))))
                rw [under] at b3
                split at b3
                · rename_i en
                  exact newN_not [116] (teamsR rules tm) (en ▸ (List.mem_append.2 (.inl (List.mem_map.2 ⟨x, hx, rfl⟩))))
                · first | (rw [if_pos hno] at b3; cases b3) | cases b3
            · rw [if_neg e] at b3
              exact .inr ⟨e, b3⟩
      simp [noW, hw] at hn
end Go.Proofs.YtcjchimenfadkaaDoor.W

end
