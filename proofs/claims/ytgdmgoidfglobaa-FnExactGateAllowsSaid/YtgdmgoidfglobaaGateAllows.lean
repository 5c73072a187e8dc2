/- What a rule allows. Conditions: none. -/
import Derived.Test.YtgdmgoidfglobaaCovers
set_option linter.unusedSimpArgs false
set_option linter.unusedVariables false
set_option linter.defProp false
open Go Go.Ab
set_option maxHeartbeats 2000000
namespace Go.Proofs.Ytgdmgoidfglobaa.W
def reachP (tm : List GateTeam) (r : GateRule) (a : GateAct) : Bool := hasV r.Verbs a.Verb && (r.Kind == [] || r.Kind == a.Kind) && (r.Team == [] || under tm r.Team 4 a.Team) && begs a.Name r.Prefix
def reachI (tm : List GateTeam) (r : GateRule) (a : GateAct) : Bool := hasS (setV r.Verbs) a.Verb && (r.Kind == [] || r.Kind == a.Kind) && (r.Team == [] || under tm r.Team 4 a.Team) && begs a.Name r.Prefix
def allowsB (tm : List GateTeam) (r : GateRule) (a : GateAct) : Bool := teamsOk tm && ruleOk r && reachP tm r a
theorem rule_16 {r : GateRule} (h : ruleOk r = true) : ∀ v ∈ r.Verbs, 0 ≤ v ∧ v < 16 := by
  intro v hv
  obtain ⟨i, hi, rfl⟩ := List.getElem_of_mem hv
  have h1 : r.Verbs.zipIdx.all (verbP r.Verbs) = true := by grind [ruleOk]
  have h2 := List.all_eq_true.1 h1 (r.Verbs[i], i) (by rw [List.mem_zipIdx_iff_getElem?]; simp [hi])
  simp only [verbP, wi, Bool.and_eq_true, decide_eq_true_eq] at h2
  omega
theorem set_has {l : List Int} (h : ∀ v ∈ l, 0 ≤ v ∧ v < 16) (v : Int) : hasS (setV l) v = hasV l v := by
  by_cases hv : 0 ≤ v ∧ v < 16
  · exact has_set l v hv.1 hv.2
  · have h1 : hasV l v = false := by
      rw [hasV, Bool.not_eq_false', List.all_eq_true]
      intro x hx
      have := h x hx
      have hne : x ≠ v := fun e => hv (e ▸ this)
      simp [noV, hne]
    have h2 : hasS (setV l) v = false := by
      unfold hasS
      by_cases h0 : 0 ≤ v
      · have : ¬ v < 16 := fun h => hv ⟨h0, h⟩
        simp [this]
      · simp [h0]
    rw [h1, h2]
theorem reach_eq {tm : List GateTeam} {r : GateRule} {a : GateAct} (h : ruleOk r = true) : reachI tm r a = reachP tm r a := by
  rw [reachI, reachP, set_has (rule_16 h)]

def c_spec_l4Allows : C := (.seq (.ops [⟨(some 4), none, (.box (.t 1))⟩, ⟨(some 5), none, (.box (.t 2))⟩, ⟨(some 6), none, (.mv (.c (.t (.bool false))))⟩]) (.seq (.ops [⟨(some 7), none, (.load (some 4) (.t 4))⟩, ⟨(some 8), none, (.fieldAddr 0 (.t 5))⟩, ⟨(some 9), none, (.load none (.t 8))⟩, ⟨(some 10), none, (.call (.c (.fn (.func 142) [])) [(.t 7), (.t 9)])⟩, ⟨(some 11), none, (.mv (.t 10))⟩, ⟨(some 12), (some ⟨11, true⟩), (.fieldAddr 1 (.t 4))⟩, ⟨(some 13), (some ⟨11, true⟩), (.load none (.t 12))⟩, ⟨(some 14), (some ⟨11, true⟩), (.bin .eql (.t 13) (.c (.t (.str []))))⟩, ⟨(some 15), (some ⟨11, true⟩), (.mv (.t 14))⟩, ⟨(some 16), (some ⟨15, false⟩), (.fieldAddr 1 (.t 4))⟩, ⟨(some 17), (some ⟨15, false⟩), (.load none (.t 16))⟩, ⟨(some 18), (some ⟨15, false⟩), (.fieldAddr 1 (.t 5))⟩, ⟨(some 19), (some ⟨15, false⟩), (.load none (.t 18))⟩, ⟨(some 20), (some ⟨15, false⟩), (.bin .eql (.t 17) (.t 19))⟩, ⟨(some 21), (some ⟨11, true⟩), (.pick (.t 15) (.c (.t (.bool true))) (.t 20))⟩, ⟨(some 22), none, (.pick (.t 11) (.t 21) (.c (.t (.bool false))))⟩, ⟨(some 23), none, (.mv (.t 22))⟩, ⟨(some 24), (some ⟨23, true⟩), (.fieldAddr 2 (.t 4))⟩, ⟨(some 25), (some ⟨23, true⟩), (.load none (.t 24))⟩, ⟨(some 26), (some ⟨23, true⟩), (.bin .eql (.t 25) (.c (.t (.str []))))⟩, ⟨(some 27), (some ⟨23, true⟩), (.mv (.t 26))⟩, ⟨(some 28), (some ⟨27, false⟩), (.mv (.t 0))⟩, ⟨(some 29), (some ⟨27, false⟩), (.fieldAddr 2 (.t 5))⟩, ⟨(some 30), (some ⟨27, false⟩), (.load none (.t 29))⟩, ⟨(some 31), (some ⟨27, false⟩), (.fieldAddr 2 (.t 4))⟩, ⟨(some 32), (some ⟨27, false⟩), (.load none (.t 31))⟩, ⟨(some 33), (some ⟨27, false⟩), (.call (.c (.fn (.func 14) [])) [(.t 28), (.t 30), (.t 32)])⟩, ⟨(some 34), (some ⟨23, true⟩), (.pick (.t 27) (.c (.t (.bool true))) (.t 33))⟩, ⟨(some 35), none, (.pick (.t 23) (.t 34) (.c (.t (.bool false))))⟩, ⟨(some 36), none, (.mv (.t 35))⟩, ⟨(some 37), (some ⟨36, true⟩), (.fieldAddr 3 (.t 5))⟩, ⟨(some 38), (some ⟨36, true⟩), (.load none (.t 37))⟩, ⟨(some 39), (some ⟨36, true⟩), (.fieldAddr 3 (.t 4))⟩, ⟨(some 40), (some ⟨36, true⟩), (.load none (.t 39))⟩, ⟨(some 41), (some ⟨36, true⟩), (.call (.c (.fn (.func 143) [])) [(.t 38), (.t 40)])⟩, ⟨(some 42), none, (.pick (.t 36) (.t 41) (.c (.t (.bool false))))⟩, ⟨(some 6), none, (.mv (.t 42))⟩]) .ret))
theorem k_spec_l4Allows : comp Try.prog 43 (Try.f94.body.getD .skip) = some c_spec_l4Allows := by kernel_rfl

theorem spec_l4Allows (tm : List GateTeam) (ht : GateTeam.OkS tm) (r : GateRule) (hr : r.Ok) (a : GateAct) (ha : a.Ok)  (σ : Store) : ACalls Try.prog 94 [.t (tGateTeamS tm), .agg (r.vs), .agg (a.vs)] σ fun rr σ' => rr = .t (.bool (reachP tm r a)) ∧ σ' = σ := by
  refine acalls_of Try.func94 (by decide +kernel) (code := Try.f94.body.getD .skip) (n := 43) (c := c_spec_l4Allows) (rs := [(.tmp 6)]) rfl rfl k_spec_l4Allows (by kernel_rfl) (by simp) (fun hσ => ?_)
  have hh : True := trivial
  have fin : ∀ {u : V} {τ : Store}, u = .t (.bool (reachP tm r a)) → u.lt σ.length = true → retV σ.length (fun rr σ' => rr = .t (.bool (reachP tm r a)) ∧ σ' = σ) (σ ++ τ) (some [u]) := fun h h2 => ret_same rfl hσ h2 ⟨h, rfl⟩
  have fin0 : ∀ {u : V}, u = .t (.bool (reachP tm r a)) → retV σ.length (fun rr σ' => rr = .t (.bool (reachP tm r a)) ∧ σ' = σ) σ (some [u]) := fun h => ret_same0 rfl ⟨h, rfl⟩
  have y1 := hr.Verbs.1
  simp -implicitDefEqProofs only [c_spec_l4Allows, GateRule.vs, GateAct.vs, S0, S1, S2, S3, S4, S5, S6, S7, S8, S9, S10, S11, S12, S13, S14, S15, S16, S17, opv, opvs, eget, env0, setD, lenStr, lenSl, isNilP, isNilS, putAt, if_true, if_false, reduceCtorEq, Nat.reduceLeDiff, Nat.reduceEqDiff, Nat.reduceSub, Nat.reduceMul, Nat.reduceAdd]
  have hv := spec_l4Verb r hr a.Verb
  simp only [GateRule.vs] at hv
  repeat' (first
    | ((with_reducible refine cond_known (fun h => ?_) (fun h => ?_)) <;> (replace hh := And.intro h hh; clear h; simp -implicitDefEqProofs only [hh, cond_t, cond_f, S0, S1, S2, S3, S4, S5, S6, S7, S8, S9, S10, S11, S12, S13, S14, S15, S16, S17, opv, opvs, eget, env0, setD, lenStr, lenSl, isNilP, isNilS, putAt, if_true, if_false, reduceCtorEq, Nat.reduceLeDiff, Nat.reduceEqDiff, Nat.reduceSub, Nat.reduceMul, Nat.reduceAdd]))
    | ((with_reducible refine call_pure (hv _) ?_); simp -implicitDefEqProofs only [hh, cond_t, cond_f, S0, S1, S2, S3, S4, S5, S6, S7, S8, S9, S10, S11, S12, S13, S14, S15, S16, S17, opv, opvs, eget, env0, setD, lenStr, lenSl, isNilP, isNilS, putAt, if_true, if_false, reduceCtorEq, Nat.reduceLeDiff, Nat.reduceEqDiff, Nat.reduceSub, Nat.reduceMul, Nat.reduceAdd])
    | ((with_reducible refine call_pure (spec_GateUnder tm a.Team r.Team ht.1 _) ?_); simp -implicitDefEqProofs only [hh, cond_t, cond_f, S0, S1, S2, S3, S4, S5, S6, S7, S8, S9, S10, S11, S12, S13, S14, S15, S16, S17, opv, opvs, eget, env0, setD, lenStr, lenSl, isNilP, isNilS, putAt, if_true, if_false, reduceCtorEq, Nat.reduceLeDiff, Nat.reduceEqDiff, Nat.reduceSub, Nat.reduceMul, Nat.reduceAdd])
    | ((with_reducible refine call_pure (spec_l4Begins a.Name r.Prefix _) ?_); simp -implicitDefEqProofs only [hh, cond_t, cond_f, S0, S1, S2, S3, S4, S5, S6, S7, S8, S9, S10, S11, S12, S13, S14, S15, S16, S17, opv, opvs, eget, env0, setD, lenStr, lenSl, isNilP, isNilS, putAt, if_true, if_false, reduceCtorEq, Nat.reduceLeDiff, Nat.reduceEqDiff, Nat.reduceSub, Nat.reduceMul, Nat.reduceAdd])
    | (first | ((with_reducible refine fin0 ?_); refine tb ?_; (try simp only [Known] at hh); grind [reachP]) | ((with_reducible refine fin ?_ ?_); rotate_left; exact rfl; refine tb ?_; (try simp only [Known] at hh); grind [reachP])))

def c_spec_GateAllows : C := (.seq (.ops [⟨(some 4), none, (.box (.t 1))⟩, ⟨(some 5), none, (.box (.t 2))⟩, ⟨(some 6), none, (.mv (.c (.t (.bool false))))⟩]) (.seq (.ops [⟨(some 7), none, (.mv (.t 0))⟩, ⟨(some 8), none, (.call (.c (.fn (.func 18) [])) [(.t 7)])⟩, ⟨(some 9), none, (.mv (.t 8))⟩, ⟨(some 10), (some ⟨9, true⟩), (.load (some 4) (.t 4))⟩, ⟨(some 11), (some ⟨9, true⟩), (.call (.c (.fn (.func 93) [])) [(.t 10)])⟩, ⟨(some 12), none, (.pick (.t 9) (.t 11) (.c (.t (.bool false))))⟩, ⟨(some 13), none, (.mv (.t 12))⟩, ⟨(some 14), (some ⟨13, true⟩), (.mv (.t 0))⟩, ⟨(some 15), (some ⟨13, true⟩), (.load (some 4) (.t 4))⟩, ⟨(some 16), (some ⟨13, true⟩), (.load (some 4) (.t 5))⟩, ⟨(some 17), (some ⟨13, true⟩), (.call (.c (.fn (.func 94) [])) [(.t 14), (.t 15), (.t 16)])⟩, ⟨(some 18), none, (.pick (.t 13) (.t 17) (.c (.t (.bool false))))⟩, ⟨(some 6), none, (.mv (.t 18))⟩]) .ret))
theorem k_spec_GateAllows : comp Try.prog 19 (Try.f35.body.getD .skip) = some c_spec_GateAllows := by kernel_rfl

theorem spec_GateAllows (tm : List GateTeam) (ht : GateTeam.OkS tm) (r : GateRule) (hr : r.Ok) (a : GateAct) (ha : a.Ok)  (σ : Store) : ACalls Try.prog 35 [.t (tGateTeamS tm), .agg (r.vs), .agg (a.vs)] σ fun rr σ' => rr = .t (.bool (allowsB tm r a)) ∧ σ' = σ := by
  refine acalls_of Try.func35 (by decide +kernel) (code := Try.f35.body.getD .skip) (n := 19) (c := c_spec_GateAllows) (rs := [(.tmp 6)]) rfl rfl k_spec_GateAllows (by kernel_rfl) (by simp) (fun hσ => ?_)
  have hh : True := trivial
  have fin : ∀ {u : V} {τ : Store}, u = .t (.bool (allowsB tm r a)) → u.lt σ.length = true → retV σ.length (fun rr σ' => rr = .t (.bool (allowsB tm r a)) ∧ σ' = σ) (σ ++ τ) (some [u]) := fun h h2 => ret_same rfl hσ h2 ⟨h, rfl⟩
  have fin0 : ∀ {u : V}, u = .t (.bool (allowsB tm r a)) → retV σ.length (fun rr σ' => rr = .t (.bool (allowsB tm r a)) ∧ σ' = σ) σ (some [u]) := fun h => ret_same0 rfl ⟨h, rfl⟩
  simp -implicitDefEqProofs only [c_spec_GateAllows, S0, S1, S2, S3, S4, S5, S6, S7, S8, S9, S10, S11, S12, S13, S14, S15, S16, S17, opv, opvs, eget, env0, setD, lenStr, lenSl, isNilP, isNilS, putAt, if_true, if_false, reduceCtorEq, Nat.reduceLeDiff, Nat.reduceEqDiff, Nat.reduceSub, Nat.reduceMul, Nat.reduceAdd]
  repeat' (first
    | ((with_reducible refine cond_known (fun h => ?_) (fun h => ?_)) <;> (replace hh := And.intro h hh; clear h; simp -implicitDefEqProofs only [hh, cond_t, cond_f, S0, S1, S2, S3, S4, S5, S6, S7, S8, S9, S10, S11, S12, S13, S14, S15, S16, S17, opv, opvs, eget, env0, setD, lenStr, lenSl, isNilP, isNilS, putAt, if_true, if_false, reduceCtorEq, Nat.reduceLeDiff, Nat.reduceEqDiff, Nat.reduceSub, Nat.reduceMul, Nat.reduceAdd]))
    | ((with_reducible refine call_pure (spec_GateTeamsOk tm ht _) ?_); simp -implicitDefEqProofs only [hh, cond_t, cond_f, S0, S1, S2, S3, S4, S5, S6, S7, S8, S9, S10, S11, S12, S13, S14, S15, S16, S17, opv, opvs, eget, env0, setD, lenStr, lenSl, isNilP, isNilS, putAt, if_true, if_false, reduceCtorEq, Nat.reduceLeDiff, Nat.reduceEqDiff, Nat.reduceSub, Nat.reduceMul, Nat.reduceAdd])
    | ((with_reducible refine call_pure (spec_l4RuleOk r hr _) ?_); simp -implicitDefEqProofs only [hh, cond_t, cond_f, S0, S1, S2, S3, S4, S5, S6, S7, S8, S9, S10, S11, S12, S13, S14, S15, S16, S17, opv, opvs, eget, env0, setD, lenStr, lenSl, isNilP, isNilS, putAt, if_true, if_false, reduceCtorEq, Nat.reduceLeDiff, Nat.reduceEqDiff, Nat.reduceSub, Nat.reduceMul, Nat.reduceAdd])
    | ((with_reducible refine call_pure (spec_l4Allows tm ht r hr a ha _) ?_); simp -implicitDefEqProofs only [hh, cond_t, cond_f, S0, S1, S2, S3, S4, S5, S6, S7, S8, S9, S10, S11, S12, S13, S14, S15, S16, S17, opv, opvs, eget, env0, setD, lenStr, lenSl, isNilP, isNilS, putAt, if_true, if_false, reduceCtorEq, Nat.reduceLeDiff, Nat.reduceEqDiff, Nat.reduceSub, Nat.reduceMul, Nat.reduceAdd])
    | (first | ((with_reducible refine fin0 ?_); refine tb ?_; (try simp only [Known] at hh); grind [allowsB]) | ((with_reducible refine fin ?_ ?_); rotate_left; exact rfl; refine tb ?_; (try simp only [Known] at hh); grind [allowsB])))

def c__impl_GateRule__reaches : C := (.seq (.ops [⟨(some 3), none, (.box (.t 0))⟩, ⟨(some 5), none, (.box (.t 2))⟩, ⟨(some 6), none, (.mv (.c (.t (.bool false))))⟩]) (.seq (.drawn [(.mk 0 false ⟨(some 7), none, (.fieldAddr 0 (.t 3))⟩ []), (.mk 1 false ⟨(some 8), none, (.load none (.t 7))⟩ []), (.mk 3 false ⟨(some 10), none, (.fieldAddr 0 (.t 5))⟩ []), (.mk 4 false ⟨(some 11), none, (.load none (.t 10))⟩ []), (.mk 2 true ⟨(some 9), none, (.call (.c (.fn (.func 144) [])) [(.t 8)])⟩ [⟨(some 11), none, (.load none (.t 10))⟩]), (.mk 5 false ⟨(some 12), none, (.call (.c (.fn (.func 145) [])) [(.t 9), (.t 11)])⟩ []), (.mk 6 false ⟨(some 13), none, (.mv (.t 12))⟩ []), (.mk 7 false ⟨(some 14), (some ⟨13, true⟩), (.fieldAddr 1 (.t 3))⟩ []), (.mk 8 false ⟨(some 15), (some ⟨13, true⟩), (.load none (.t 14))⟩ []), (.mk 9 false ⟨(some 16), (some ⟨13, true⟩), (.bin .eql (.t 15) (.c (.t (.str []))))⟩ []), (.mk 10 false ⟨(some 17), (some ⟨13, true⟩), (.mv (.t 16))⟩ []), (.mk 11 false ⟨(some 18), (some ⟨17, false⟩), (.fieldAddr 1 (.t 3))⟩ []), (.mk 12 false ⟨(some 19), (some ⟨17, false⟩), (.load none (.t 18))⟩ []), (.mk 13 false ⟨(some 20), (some ⟨17, false⟩), (.fieldAddr 1 (.t 5))⟩ []), (.mk 14 false ⟨(some 21), (some ⟨17, false⟩), (.load none (.t 20))⟩ []), (.mk 15 false ⟨(some 22), (some ⟨17, false⟩), (.bin .eql (.t 19) (.t 21))⟩ []), (.mk 16 false ⟨(some 23), (some ⟨13, true⟩), (.pick (.t 17) (.c (.t (.bool true))) (.t 22))⟩ []), (.mk 17 false ⟨(some 24), none, (.pick (.t 13) (.t 23) (.c (.t (.bool false))))⟩ []), (.mk 18 false ⟨(some 25), none, (.mv (.t 24))⟩ []), (.mk 19 false ⟨(some 26), (some ⟨25, true⟩), (.fieldAddr 2 (.t 3))⟩ []), (.mk 20 false ⟨(some 27), (some ⟨25, true⟩), (.load none (.t 26))⟩ []), (.mk 21 false ⟨(some 28), (some ⟨25, true⟩), (.bin .eql (.t 27) (.c (.t (.str []))))⟩ []), (.mk 22 false ⟨(some 29), (some ⟨25, true⟩), (.mv (.t 28))⟩ []), (.mk 23 false ⟨(some 30), (some ⟨29, false⟩), (.mv (.t 1))⟩ []), (.mk 24 false ⟨(some 31), (some ⟨29, false⟩), (.fieldAddr 2 (.t 5))⟩ []), (.mk 25 false ⟨(some 32), (some ⟨29, false⟩), (.load none (.t 31))⟩ []), (.mk 26 false ⟨(some 33), (some ⟨29, false⟩), (.fieldAddr 2 (.t 3))⟩ []), (.mk 27 false ⟨(some 34), (some ⟨29, false⟩), (.load none (.t 33))⟩ []), (.mk 28 false ⟨(some 35), (some ⟨29, false⟩), (.call (.c (.fn (.func 16) [])) [(.t 30), (.t 32), (.t 34)])⟩ []), (.mk 29 false ⟨(some 36), (some ⟨25, true⟩), (.pick (.t 29) (.c (.t (.bool true))) (.t 35))⟩ []), (.mk 30 false ⟨(some 37), none, (.pick (.t 25) (.t 36) (.c (.t (.bool false))))⟩ []), (.mk 31 false ⟨(some 38), none, (.mv (.t 37))⟩ []), (.mk 32 false ⟨(some 39), (some ⟨38, true⟩), (.fieldAddr 3 (.t 5))⟩ []), (.mk 33 false ⟨(some 40), (some ⟨38, true⟩), (.load none (.t 39))⟩ []), (.mk 34 false ⟨(some 41), (some ⟨38, true⟩), (.fieldAddr 3 (.t 3))⟩ []), (.mk 35 false ⟨(some 42), (some ⟨38, true⟩), (.load none (.t 41))⟩ []), (.mk 36 false ⟨(some 43), (some ⟨38, true⟩), (.call (.c (.fn (.func 146) [])) [(.t 40), (.t 42)])⟩ []), (.mk 37 false ⟨(some 44), none, (.pick (.t 38) (.t 43) (.c (.t (.bool false))))⟩ []), (.mk 38 false ⟨(some 6), none, (.mv (.t 44))⟩ [])]) .ret))
theorem k__impl_GateRule__reaches : comp Try.prog 45 (Try.f97.body.getD .skip) = some c__impl_GateRule__reaches := by kernel_rfl

theorem _impl_GateRule__reaches (r : GateRule) (hr : r.Ok) (tm : List GateTeam) (ht : GateTeam.OkS tm) (a : GateAct) (ha : a.Ok)  (σ : Store) : ACalls Try.prog 97 [.agg (r.vs), .t (tGateTeamS tm), .agg (a.vs)] σ fun rr σ' => rr = .t (.bool (reachI tm r a)) ∧ σ' = σ := by
  refine acalls_of Try.func97 (by decide +kernel) (code := Try.f97.body.getD .skip) (n := 45) (c := c__impl_GateRule__reaches) (rs := [(.tmp 6)]) rfl rfl k__impl_GateRule__reaches (by kernel_rfl) (by simp) (fun hσ => ?_)
  have hh : True := trivial
  have fin : ∀ {u : V} {τ : Store}, u = .t (.bool (reachI tm r a)) → u.lt σ.length = true → retV σ.length (fun rr σ' => rr = .t (.bool (reachI tm r a)) ∧ σ' = σ) (σ ++ τ) (some [u]) := fun h h2 => ret_same rfl hσ h2 ⟨h, rfl⟩
  have fin0 : ∀ {u : V}, u = .t (.bool (reachI tm r a)) → retV σ.length (fun rr σ' => rr = .t (.bool (reachI tm r a)) ∧ σ' = σ) σ (some [u]) := fun h => ret_same0 rfl ⟨h, rfl⟩
  simp -implicitDefEqProofs only [c__impl_GateRule__reaches, GateRule.vs, GateAct.vs, S0, S1, S2, S3, S4, S5, S6, S7, S8, S9, S10, S11, S12, S13, S14, S15, S16, S17, opv, opvs, eget, env0, setD, lenStr, lenSl, isNilP, isNilS, putAt, if_true, if_false, reduceCtorEq, Nat.reduceLeDiff, Nat.reduceEqDiff, Nat.reduceSub, Nat.reduceMul, Nat.reduceAdd]
  refine call_pure (impl_setOf r.Verbs hr.Verbs.1 _) ?_
  simp -implicitDefEqProofs only [S0, S1, S2, S3, S4, S5, S6, S7, S8, S9, S10, S11, S12, S13, S14, S15, S16, S17, opv, opvs, eget, env0, setD, lenStr, lenSl, isNilP, isNilS, putAt, if_true, if_false, reduceCtorEq, Nat.reduceLeDiff, Nat.reduceEqDiff, Nat.reduceSub, Nat.reduceMul, Nat.reduceAdd]
  refine call_pure (_impl_verbSet__has (setV r.Verbs) a.Verb _) ?_
  simp -implicitDefEqProofs only [S0, S1, S2, S3, S4, S5, S6, S7, S8, S9, S10, S11, S12, S13, S14, S15, S16, S17, opv, opvs, eget, env0, setD, lenStr, lenSl, isNilP, isNilS, putAt, if_true, if_false, reduceCtorEq, Nat.reduceLeDiff, Nat.reduceEqDiff, Nat.reduceSub, Nat.reduceMul, Nat.reduceAdd]
  repeat' (first
    | ((with_reducible refine cond_known (fun h => ?_) (fun h => ?_)) <;> (replace hh := And.intro h hh; clear h; simp -implicitDefEqProofs only [hh, cond_t, cond_f, S0, S1, S2, S3, S4, S5, S6, S7, S8, S9, S10, S11, S12, S13, S14, S15, S16, S17, opv, opvs, eget, env0, setD, lenStr, lenSl, isNilP, isNilS, putAt, if_true, if_false, reduceCtorEq, Nat.reduceLeDiff, Nat.reduceEqDiff, Nat.reduceSub, Nat.reduceMul, Nat.reduceAdd]))
    | ((with_reducible refine call_pure (impl_GateUnder tm a.Team r.Team ht.1 _) ?_); simp -implicitDefEqProofs only [hh, cond_t, cond_f, S0, S1, S2, S3, S4, S5, S6, S7, S8, S9, S10, S11, S12, S13, S14, S15, S16, S17, opv, opvs, eget, env0, setD, lenStr, lenSl, isNilP, isNilS, putAt, if_true, if_false, reduceCtorEq, Nat.reduceLeDiff, Nat.reduceEqDiff, Nat.reduceSub, Nat.reduceMul, Nat.reduceAdd])
    | ((with_reducible refine call_pure (strings_HasPrefix a.Name r.Prefix _) ?_); simp -implicitDefEqProofs only [hh, cond_t, cond_f, S0, S1, S2, S3, S4, S5, S6, S7, S8, S9, S10, S11, S12, S13, S14, S15, S16, S17, opv, opvs, eget, env0, setD, lenStr, lenSl, isNilP, isNilS, putAt, if_true, if_false, reduceCtorEq, Nat.reduceLeDiff, Nat.reduceEqDiff, Nat.reduceSub, Nat.reduceMul, Nat.reduceAdd])
    | (first | ((with_reducible refine fin0 ?_); refine tb ?_; (try simp only [Known] at hh); grind [reachI]) | ((with_reducible refine fin ?_ ?_); rotate_left; exact rfl; refine tb ?_; (try simp only [Known] at hh); grind [reachI])))

def c_impl_GateAllows : C := (.seq (.ops [⟨(some 4), none, (.box (.t 1))⟩, ⟨(some 5), none, (.box (.t 2))⟩, ⟨(some 6), none, (.mv (.c (.t (.bool false))))⟩]) (.seq (.seq (.ops [⟨(some 8), none, (.mv (.t 0))⟩, ⟨(some 9), none, (.call (.c (.fn (.func 19) [])) [(.t 8)])⟩, ⟨(some 10), none, (.un .not (.t 9))⟩, ⟨(some 11), none, (.mv (.t 10))⟩, ⟨(some 12), (some ⟨11, false⟩), (.load (some 4) (.t 4))⟩, ⟨(some 13), (some ⟨11, false⟩), (.call (.c (.fn (.func 96) [])) [(.t 12)])⟩, ⟨(some 14), (some ⟨11, false⟩), (.un .not (.t 13))⟩, ⟨(some 15), none, (.pick (.t 11) (.c (.t (.bool true))) (.t 14))⟩]) (.cond (.t 15) (.seq (.ops [⟨(some 6), none, (.mv (.c (.t (.bool false))))⟩]) .ret) .skip)) (.seq (.ops [⟨(some 16), none, (.load (some 4) (.t 4))⟩, ⟨(some 17), none, (.fnb 97 [(.t 16)])⟩, ⟨(some 7), none, (.mv (.t 17))⟩]) (.seq (.ops [⟨(some 18), none, (.mv (.t 7))⟩, ⟨(some 19), none, (.mv (.t 0))⟩, ⟨(some 20), none, (.load (some 4) (.t 5))⟩, ⟨(some 21), none, (.call (.t 18) [(.t 19), (.t 20)])⟩, ⟨(some 6), none, (.mv (.t 21))⟩]) .ret))))
theorem k_impl_GateAllows : comp Try.prog 22 (Try.f38.body.getD .skip) = some c_impl_GateAllows := by kernel_rfl

theorem impl_GateAllows (tm : List GateTeam) (ht : GateTeam.OkS tm) (r : GateRule) (hr : r.Ok) (a : GateAct) (ha : a.Ok)  (σ : Store) : ACalls Try.prog 38 [.t (tGateTeamS tm), .agg (r.vs), .agg (a.vs)] σ fun rr σ' => rr = .t (.bool (allowsB tm r a)) ∧ σ' = σ := by
  refine acalls_of Try.func38 (by decide +kernel) (code := Try.f38.body.getD .skip) (n := 22) (c := c_impl_GateAllows) (rs := [(.tmp 6)]) rfl rfl k_impl_GateAllows (by kernel_rfl) (by simp) (fun hσ => ?_)
  have hh : True := trivial
  have fin : ∀ {u : V} {τ : Store}, u = .t (.bool (allowsB tm r a)) → u.lt σ.length = true → retV σ.length (fun rr σ' => rr = .t (.bool (allowsB tm r a)) ∧ σ' = σ) (σ ++ τ) (some [u]) := fun h h2 => ret_same rfl hσ h2 ⟨h, rfl⟩
  have fin0 : ∀ {u : V}, u = .t (.bool (allowsB tm r a)) → retV σ.length (fun rr σ' => rr = .t (.bool (allowsB tm r a)) ∧ σ' = σ) σ (some [u]) := fun h => ret_same0 rfl ⟨h, rfl⟩
  simp -implicitDefEqProofs only [c_impl_GateAllows, S0, S1, S2, S3, S4, S5, S6, S7, S8, S9, S10, S11, S12, S13, S14, S15, S16, S17, opv, opvs, eget, env0, setD, lenStr, lenSl, isNilP, isNilS, putAt, if_true, if_false, reduceCtorEq, Nat.reduceLeDiff, Nat.reduceEqDiff, Nat.reduceSub, Nat.reduceMul, Nat.reduceAdd]
  refine call_pure (impl_GateTeamsOk tm ht _) ?_
  rcases h1 : teamsOk tm with _ | _
  · simp -implicitDefEqProofs only [cond_t, cond_f, S0, S1, S2, S3, S4, S5, S6, S7, S8, S9, S10, S11, S12, S13, S14, S15, S16, S17, opv, opvs, eget, env0, setD, lenStr, lenSl, isNilP, isNilS, putAt, if_true, if_false, reduceCtorEq, Nat.reduceLeDiff, Nat.reduceEqDiff, Nat.reduceSub, Nat.reduceMul, Nat.reduceAdd]
    first | exact fin0 (tb (by simp [allowsB, h1])) | exact fin (tb (by simp [allowsB, h1])) rfl
  simp -implicitDefEqProofs only [cond_t, cond_f, S0, S1, S2, S3, S4, S5, S6, S7, S8, S9, S10, S11, S12, S13, S14, S15, S16, S17, opv, opvs, eget, env0, setD, lenStr, lenSl, isNilP, isNilS, putAt, if_true, if_false, reduceCtorEq, Nat.reduceLeDiff, Nat.reduceEqDiff, Nat.reduceSub, Nat.reduceMul, Nat.reduceAdd]
  refine call_pure (_impl_GateRule__ok r hr _) ?_
  rcases h2 : ruleOk r with _ | _
  · simp -implicitDefEqProofs only [cond_t, cond_f, S0, S1, S2, S3, S4, S5, S6, S7, S8, S9, S10, S11, S12, S13, S14, S15, S16, S17, opv, opvs, eget, env0, setD, lenStr, lenSl, isNilP, isNilS, putAt, if_true, if_false, reduceCtorEq, Nat.reduceLeDiff, Nat.reduceEqDiff, Nat.reduceSub, Nat.reduceMul, Nat.reduceAdd]
    first | exact fin0 (tb (by simp [allowsB, h1, h2])) | exact fin (tb (by simp [allowsB, h1, h2])) rfl
  simp -implicitDefEqProofs only [cond_t, cond_f, S0, S1, S2, S3, S4, S5, S6, S7, S8, S9, S10, S11, S12, S13, S14, S15, S16, S17, opv, opvs, eget, env0, setD, lenStr, lenSl, isNilP, isNilS, putAt, if_true, if_false, reduceCtorEq, Nat.reduceLeDiff, Nat.reduceEqDiff, Nat.reduceSub, Nat.reduceMul, Nat.reduceAdd]
  refine call_pure (_impl_GateRule__reaches r hr tm ht a ha _) ?_
  rw [reach_eq h2]
  try simp -implicitDefEqProofs only [S0, S1, S2, S3, S4, S5, S6, S7, S8, S9, S10, S11, S12, S13, S14, S15, S16, S17, opv, opvs, eget, env0, setD, lenStr, lenSl, isNilP, isNilS, putAt, if_true, if_false, reduceCtorEq, Nat.reduceLeDiff, Nat.reduceEqDiff, Nat.reduceSub, Nat.reduceMul, Nat.reduceAdd]
  first | exact fin0 (tb (by simp [allowsB, h1, h2])) | exact fin (tb (by simp [allowsB, h1, h2])) rfl

end Go.Proofs.Ytgdmgoidfglobaa.W
