/- Whether one of some rules allows an act. Conditions: none. -/
import Derived.Test.YtcjchimenfadkaaDoorGateCovP
set_option linter.unusedSimpArgs false
set_option linter.unusedVariables false
set_option linter.defProp false
open Go Go.Ab
set_option maxHeartbeats 2000000
namespace Go.Proofs.YtcjchimenfadkaaDoor.W
def noA (tm : List GateTeam) (a : GateAct) (x : GateRule) : Bool := !allowsB tm x a
def someB (tm : List GateTeam) (rules : List GateRule) (a : GateAct) : Bool := !(rules.all (noA tm a))
theorem some_iff {tm : List GateTeam} {rules : List GateRule} {a : GateAct} : someB tm rules a = true ↔ ∃ x ∈ rules, allowsB tm x a = true := by
  rw [someB, Bool.not_eq_true', List.all_eq_false]
  constructor
  · rintro ⟨x, hx, h⟩; exact ⟨x, hx, by simpa [noA] using h⟩
  · rintro ⟨x, hx, h⟩; exact ⟨x, hx, by simp [noA, h]⟩

def c_laws_wgSome : C := (.seq (.ops [⟨(some 5), none, (.box (.t 2))⟩, ⟨(some 6), none, (.mv (.c (.t (.bool false))))⟩]) (.seq (.seq (.ops [⟨(some 7), none, (.mv (.c (.t (.int .i64 0))))⟩]) (.block 0 (.loop (.seq (.seq (.ops [⟨(some 8), none, (.mv (.t 7))⟩, ⟨(some 9), none, (.mv (.t 1))⟩, ⟨(some 10), none, (.len false (.t 9))⟩, ⟨(some 11), none, (.bin .lss (.t 8) (.t 10))⟩]) (.cond (.t 11) .skip (.exit 0))) (.seq (.block 1 (.seq (.drawn [(.mk 0 false ⟨(some 14), none, (.mv (.t 0))⟩ []), (.mk 1 false ⟨(some 15), none, (.mv (.t 1))⟩ []), (.mk 2 false ⟨(some 16), none, (.mv (.t 7))⟩ []), (.mk 3 false ⟨(some 17), none, (.indexAddr 4 (.t 15) (.t 16))⟩ []), (.mk 4 false ⟨(some 18), none, (.load (some 4) (.t 17))⟩ []), (.mk 5 false ⟨(some 19), none, (.load (some 4) (.t 5))⟩ []), (.mk 6 false ⟨(some 20), none, (.call (.c (.fn (.func 32) [])) [(.t 14), (.t 18), (.t 19)])⟩ [])]) (.cond (.t 20) (.seq (.ops [⟨(some 6), none, (.mv (.c (.t (.bool true))))⟩]) .ret) .skip))) (.ops [⟨(some 12), none, (.mv (.t 7))⟩, ⟨(some 13), none, (.bin .add (.t 12) (.c (.t (.int .i64 1))))⟩, ⟨(some 7), none, (.mv (.t 13))⟩])))))) (.seq (.ops [⟨(some 6), none, (.mv (.c (.t (.bool false))))⟩]) .ret)))
theorem k_laws_wgSome : comp Tryd.prog 21 (Tryd.f33.body.getD .skip) = some c_laws_wgSome := by kernel_rfl

theorem laws_wgSome (tm : List GateTeam) (ht : GateTeam.OkS tm) (rules : List GateRule) (hu : GateRule.OkS rules) (a : GateAct) (ha : a.Ok)  (σ : Store) : ACalls Tryd.prog 33 [.t (tGateTeamS tm), .t (tGateRuleS rules), .agg (a.vs)] σ fun rr σ' => rr = .t (.bool (someB tm rules a)) ∧ σ' = σ := by
  refine acalls_of Tryd.func33 (by decide +kernel) (code := Tryd.f33.body.getD .skip) (n := 21) (c := c_laws_wgSome) (rs := [(.tmp 6)]) rfl rfl k_laws_wgSome (by kernel_rfl) (by simp) (fun hσ => ?_)
  have hh : True := trivial
  have fin : ∀ {u : V} {τ : Store}, u = .t (.bool (someB tm rules a)) → u.lt σ.length = true → retV σ.length (fun rr σ' => rr = .t (.bool (someB tm rules a)) ∧ σ' = σ) (σ ++ τ) (some [u]) := fun h h2 => ret_same rfl hσ h2 ⟨h, rfl⟩
  have fin0 : ∀ {u : V}, u = .t (.bool (someB tm rules a)) → retV σ.length (fun rr σ' => rr = .t (.bool (someB tm rules a)) ∧ σ' = σ) σ (some [u]) := fun h => ret_same0 rfl ⟨h, rfl⟩
  have y1 := hu.1
  simp -implicitDefEqProofs only [c_laws_wgSome, GateAct.vs, tGateRuleS, List.length_map, S0, S1, S2, S3, S4, S5, S6, S7, S8, S9, S10, S11, S12, S13, S14, S15, S16, S17, opv, opvs, eget, env0, setD, lenStr, lenSl, isNilP, isNilS, putAt, if_true, if_false, reduceCtorEq, Nat.reduceLeDiff, Nat.reduceEqDiff, Nat.reduceSub, Nat.reduceMul, Nat.reduceAdd]
  refine loop_p [7, 0, 1, 5] [0, 1, 5] (fun k : Nat => [(7, .t (.int .i64 (k : Nat)))]) (fun k => k ≤ (rules).length ∧ ((rules).take k).all (noA tm a) = true) (fun k => (rules).length - k) 0 (by simp) ⟨Nat.zero_le _, rfl⟩ rfl ?_
  rintro k ⟨hk, hall⟩
  simp -implicitDefEqProofs only [keep, List.length_map, S0, S1, S2, S3, S4, S5, S6, S7, S8, S9, S10, S11, S12, S13, S14, S15, S16, S17, opv, opvs, eget, env0, setD, lenStr, lenSl, isNilP, isNilS, putAt, if_true, if_false, reduceCtorEq, Nat.reduceLeDiff, Nat.reduceEqDiff, Nat.reduceSub, Nat.reduceMul, Nat.reduceAdd]
  refine cond_split (fun h1 => ?_) (fun h1 => ?_)
  · obtain ⟨x, hx, hlt⟩ := at_of h1
    clear h1 hh
    have hh : True := trivial
    have hga : ∀ y ∈ rules, ∀ σ : Store, _ := fun y hy => impl_GateAllows tm ht y (hu.2 y hy) a ha
    simp only [GateRule.vs, GateAct.vs] at hga
    simp -implicitDefEqProofs only [hx, nat_nn, Nat.zero_le, List.getElem?_map, Option.map_some, GateRule.ts, List.length_map, i64_succ (show k < 4611686018427387904 by omega), S0, S1, S2, S3, S4, S5, S6, S7, S8, S9, S10, S11, S12, S13, S14, S15, S16, S17, opv, opvs, eget, env0, setD, lenStr, lenSl, isNilP, isNilS, putAt, if_true, if_false, reduceCtorEq, Nat.reduceLeDiff, Nat.reduceEqDiff, Nat.reduceSub, Nat.reduceMul, Nat.reduceAdd]
    repeat' (first
    | ((with_reducible refine cond_known (fun h => ?_) (fun h => ?_)) <;> (replace hh := And.intro h hh; clear h; simp -implicitDefEqProofs only [hh, cond_t, cond_f, hx, nat_nn, Nat.zero_le, List.getElem?_map, Option.map_some, GateRule.ts, List.length_map, i64_succ (show k < 4611686018427387904 by omega), S0, S1, S2, S3, S4, S5, S6, S7, S8, S9, S10, S11, S12, S13, S14, S15, S16, S17, opv, opvs, eget, env0, setD, lenStr, lenSl, isNilP, isNilS, putAt, if_true, if_false, reduceCtorEq, Nat.reduceLeDiff, Nat.reduceEqDiff, Nat.reduceSub, Nat.reduceMul, Nat.reduceAdd]))
    | ((with_reducible refine call_pure (hga x (mem_at hx) _) ?_); simp -implicitDefEqProofs only [hh, cond_t, cond_f, hx, nat_nn, Nat.zero_le, List.getElem?_map, Option.map_some, GateRule.ts, List.length_map, i64_succ (show k < 4611686018427387904 by omega), S0, S1, S2, S3, S4, S5, S6, S7, S8, S9, S10, S11, S12, S13, S14, S15, S16, S17, opv, opvs, eget, env0, setD, lenStr, lenSl, isNilP, isNilS, putAt, if_true, if_false, reduceCtorEq, Nat.reduceLeDiff, Nat.reduceEqDiff, Nat.reduceSub, Nat.reduceMul, Nat.reduceAdd])
    | (first | ((with_reducible refine fin0 ?_); refine tb ?_; (try simp only [Known] at hh); have hno := all_not (l := (rules)) (p := (noA tm a)) hx; rw [someB, hno (by grind [noA])]; rfl) | ((with_reducible refine fin ?_ ?_); rotate_left; exact rfl; refine tb ?_; (try simp only [Known] at hh); have hno := all_not (l := (rules)) (p := (noA tm a)) hx; rw [someB, hno (by grind [noA])]; rfl) | (refine lk_p0 (k + 1) (by simp) (by simp) (by omega) ⟨by omega, all_step hx hall ?_⟩ rfl; (try simp only [Known] at hh); grind [noA]) | (refine lk_p (k + 1) (by simp) (by simp) hσ rfl (by omega) ⟨by omega, all_step hx hall ?_⟩ rfl rfl; (try simp only [Known] at hh); grind [noA]) | (refine lk_pm (k + 1) (Nat.le_refl _) (by simp) hσ rfl rfl (by omega) ⟨by omega, all_step hx hall ?_⟩ (by simp [ltE, keep, eget, V.lt]) rfl; (try simp only [Known] at hh); grind [noA])))
  replace hall := all_len hall ((end_of h1 hk).trans (by rfl))
  clear h1 hk
  simp -implicitDefEqProofs only [S0, S1, S2, S3, S4, S5, S6, S7, S8, S9, S10, S11, S12, S13, S14, S15, S16, S17, opv, opvs, eget, env0, setD, lenStr, lenSl, isNilP, isNilS, putAt, if_true, if_false, reduceCtorEq, Nat.reduceLeDiff, Nat.reduceEqDiff, Nat.reduceSub, Nat.reduceMul, Nat.reduceAdd]
  (first | ((with_reducible refine fin0 ?_); refine tb ?_; (try simp only [Known] at hh); rw [someB, hall]; rfl) | ((with_reducible refine fin ?_ ?_); rotate_left; exact rfl; refine tb ?_; (try simp only [Known] at hh); rw [someB, hall]; rfl))
end Go.Proofs.YtcjchimenfadkaaDoor.W
