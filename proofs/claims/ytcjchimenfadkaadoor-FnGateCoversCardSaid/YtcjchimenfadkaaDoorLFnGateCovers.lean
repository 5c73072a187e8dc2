/- What covering means: the law. Conditions: none. -/
import Derived.Test.YtcjchimenfadkaaDoorGateCovS
import Derived.Test.YtcjchimenfadkaaDoorGateDraw7
import Derived.Test.YtcjchimenfadkaaDoorGateUncI
set_option linter.unusedSimpArgs false
set_option linter.unusedVariables false
set_option linter.defProp false
open Go Go.Ab
set_option maxHeartbeats 2000000
namespace Go.Proofs.YtcjchimenfadkaaDoor.W
theorem hRR (l : List GateRule) : tGateRuleS l = .lst 4 (l.map GateRule.ts) := rfl
theorem tfB : (true == false) = false := rfl
theorem ftB : (false == true) = false := rfl
theorem ok_rules2 {l : List GateRule} {q : GateRule} (h1 : l.length ≤ 20) (h : ∀ x ∈ l, RuleS x) (hq : RuleS q) : GateRule.OkS (l ++ [q]) :=
  ⟨by simp; omega, fun x hx => by
    rcases List.mem_append.1 hx with h' | h'
    · exact ⟨⟨by have := (h x h').1; omega, fun v hv => by have := (h x h').2.1 v hv; simp only [i64r]; omega⟩, by have := (h x h').2.2.1; omega, by have := (h x h').2.2.2.1; omega, by have := (h x h').2.2.2.2; omega⟩
    · simp at h'; subst h'
      exact ⟨⟨by have := hq.1; omega, fun v hv => by have := hq.2.1 v hv; simp only [i64r]; omega⟩, by have := hq.2.2.1; omega, by have := hq.2.2.2.1; omega, by have := hq.2.2.2.2; omega⟩⟩
theorem sees_ints' {s : Store} (vs : List Int) : Sees s (tInts vs) (.t (tInts vs)) := by
  simp only [tInts, Sees]
  refine ⟨(vs.map tInt).map fun r => r.map V.t, by simp only [rowsOf, if_true], ?_, by omega⟩
  induction vs with
  | nil => simp [SeesRows]
  | cons v vs ih => simp only [List.map_cons, SeesRows]; exact ⟨_, _, rfl, by simp [tInt, SeesL, Sees], ih⟩
theorem sees_teams' {s : Store} (tm : List GateTeam) : Sees s (tGateTeamS tm) (.t (tGateTeamS tm)) := by
  simp only [tGateTeamS, Sees]
  refine ⟨(tm.map GateTeam.ts).map fun r => r.map V.t, by simp only [rowsOf, if_true], ?_, by omega⟩
  induction tm with
  | nil => simp [SeesRows]
  | cons v vs ih => simp only [List.map_cons, SeesRows]; exact ⟨_, _, rfl, by simp [GateTeam.ts, SeesL, Sees], ih⟩
theorem sees_ruleRows {s : Store} : ∀ (l : List GateRule), SeesRows s (l.map GateRule.ts) ((l.map GateRule.ts).map fun r => r.map V.t)
  | [] => by simp [SeesRows]
  | x :: l => by
    simp only [List.map_cons, SeesRows]
    exact ⟨_, _, rfl, by simp only [GateRule.ts, List.map_cons, List.map_nil, SeesL]; exact ⟨_, _, rfl, sees_ints' x.Verbs, _, _, rfl, by simp [Sees], _, _, rfl, by simp [Sees], _, _, rfl, by simp [Sees], rfl⟩, sees_ruleRows l⟩
theorem sees_newN {s : Store} {l : List GateRule} {id m : Nat} (h : s[id]? = some (.slc 4 ((l.map GateRule.ts).map fun r => r.map V.t))) (hm : m = l.length) : SeesA s (.t (tGateRuleS l)) (.sl id m 0 m) := by
  subst hm
  refine .inl ⟨_, rfl, ?_⟩
  simp only [tGateRuleS, Sees]
  refine ⟨(l.map GateRule.ts).map fun r => r.map V.t, ?_, sees_ruleRows l, by omega⟩
  simp only [rowsOf, h, List.length_map, and_self, if_true, List.drop_zero]
  rw [List.take_of_length_le (by simp)]
theorem sees_new1 {s : Store} {l : List GateRule} {q : GateRule} {id : Nat} (h0 : l = []) (h : s[id]? = some (.slc 4 [[.t (.lst 1 (q.Verbs.map tInt)), .t (.str q.Kind), .t (.str q.Team), .t (.str q.Prefix)]])) : SeesA s (.t (tGateRuleS (l ++ [q]))) (.sl id 1 0 1) := by
  subst h0
  exact sees_newN h rfl
theorem ok_teams {tm : List GateTeam} (h : TeamS tm) : GateTeam.OkS tm := ⟨by have := h.1; omega, fun x hx => ⟨by have := h.2 x hx; omega, by have := h.2 x hx; omega⟩⟩
theorem ok_rule {q : GateRule} (h : RuleS q) : q.Ok := ⟨⟨by have := h.1; omega, fun v hv => by have := h.2.1 v hv; simp only [i64r]; omega⟩, by have := h.2.2.1; omega, by have := h.2.2.2.1; omega, by have := h.2.2.2.2; omega⟩
theorem ok_rules {l : List GateRule} (h1 : l.length ≤ 20) (h : ∀ x ∈ l, RuleS x) : GateRule.OkS l := ⟨by omega, fun x hx => ok_rule (h x hx)⟩
theorem ok_act {a : GateAct} (h : ActS a) : a.Ok := ⟨by have := h.1; have := h.2.1; simp only [i64r]; omega, by have := h.2.2.1; omega, by have := h.2.2.2.1; omega, by have := h.2.2.2.2; omega⟩
theorem unc_ok_act {tm : List GateTeam} {rules : List GateRule} {q : GateRule} (h1 : rules.length ≤ 20) (h2 : tm.length ≤ 40) (hq : RuleS q) : (uncA tm rules q).Ok := by
  have nl : ∀ (c : UInt8) (u : List (List UInt8)), u.length ≤ 1000 → (newN [c] u).length ≤ 1048576 := fun c u hu => by
    have := (firstN_free [c] u).2.1
    have := dec_len (firstN [c] u)
    simp only [newN, nameN, List.length_append, List.length_cons, List.length_nil]
    omega
  have n1 := nl 107 (kindsR rules) (by simp [kindsR]; omega)
  have n2 := nl 116 (teamsR rules tm) (by simp [teamsR]; omega)
  have k1 := hq.2.2.1
  have k2 := hq.2.2.2.1
  have k3 := hq.2.2.2.2
  rw [uncA]
  split
  · rename_i hu
    refine ⟨?_, ?_, ?_, by simp only; omega⟩
    · simp only [uncB, Bool.and_eq_true, Bool.not_eq_true', beq_eq_false_iff_ne] at hu
      have := hq.2.1 _ (lack_in hu.2).1
      simp only [i64r]; omega
    · simp only; split <;> omega
    · simp only; split <;> omega
  · exact ⟨by simp [i64r], by simp, by simp, by simp⟩

def c_laws_FnGateCovers : C := (.seq (.ops [⟨(some 4), none, (.mv (.c (.t (.bool false))))⟩]) (.seq (.seq (.ops [⟨(some 19), none, (.mv (.t 0))⟩, ⟨(some 20), none, (.len false (.t 19))⟩, ⟨(some 21), none, (.bin .gtr (.t 20) (.c (.t (.int .i64 1048576))))⟩, ⟨(some 22), none, (.mv (.t 21))⟩, ⟨(some 23), (some ⟨22, false⟩), (.mv (.t 1))⟩, ⟨(some 24), (some ⟨22, false⟩), (.len false (.t 23))⟩, ⟨(some 25), (some ⟨22, false⟩), (.bin .gtr (.t 24) (.c (.t (.int .i64 1048576))))⟩, ⟨(some 26), none, (.pick (.t 22) (.c (.t (.bool true))) (.t 25))⟩]) (.cond (.t 26) (.seq (.ops [⟨(some 4), none, (.mv (.c (.t (.bool true))))⟩]) .ret) .skip)) (.seq (.ops [⟨(some 28), none, (.mv (.t 0))⟩, ⟨(some 29), none, (.call (.c (.fn (.func 29) [])) [(.t 28)])⟩, ⟨(some 27), none, (.mv (.t 29))⟩, ⟨(some 30), none, (.extract (.t 27) 0)⟩, ⟨(some 31), none, (.extract (.t 27) 1)⟩, ⟨(some 32), none, (.extract (.t 27) 2)⟩, ⟨(some 7), none, (.new [.nils, (.t (.str [])), (.t (.str [])), (.t (.str []))])⟩, ⟨(some 5), none, (.mv (.t 30))⟩, ⟨(some 6), none, (.mv (.t 31))⟩, ⟨none, none, (.store 4 (.t 7) (.t 32))⟩]) (.seq (.ops [⟨(some 33), none, (.mv (.t 5))⟩, ⟨(some 34), none, (.mv (.t 6))⟩, ⟨(some 35), none, (.load (some 4) (.t 7))⟩, ⟨(some 36), none, (.call (.c (.fn (.func 30) [])) [(.t 33), (.t 34), (.t 35)])⟩, ⟨(some 8), none, (.mv (.t 36))⟩]) (.seq (.ops [⟨(some 38), none, (.mv (.t 5))⟩, ⟨(some 39), none, (.mv (.t 6))⟩, ⟨(some 40), none, (.load (some 4) (.t 7))⟩, ⟨(some 41), none, (.call (.c (.fn (.func 14) [])) [(.t 38), (.t 39), (.t 40)])⟩, ⟨(some 37), none, (.mv (.t 41))⟩, ⟨(some 42), none, (.extract (.t 37) 0)⟩, ⟨(some 43), none, (.extract (.t 37) 1)⟩, ⟨(some 9), none, (.new [(.t (.int .i64 0)), (.t (.str [])), (.t (.str [])), (.t (.str []))])⟩, ⟨none, none, (.store 4 (.t 9) (.t 42))⟩, ⟨(some 10), none, (.mv (.t 43))⟩]) (.seq (.seq (.ops [⟨(some 44), none, (.mv (.t 8))⟩, ⟨(some 45), none, (.mv (.t 5))⟩, ⟨(some 46), none, (.mv (.t 6))⟩, ⟨(some 47), none, (.load (some 4) (.t 7))⟩, ⟨(some 48), none, (.call (.c (.fn (.func 31) [])) [(.t 45), (.t 46), (.t 47)])⟩, ⟨(some 49), none, (.eqB true (.t 44) (.t 48))⟩]) (.cond (.t 49) (.seq (.ops [⟨(some 4), none, (.mv (.c (.t (.bool false))))⟩]) .ret) .skip)) (.seq (.seq (.ops [⟨(some 50), none, (.mv (.t 10))⟩, ⟨(some 51), none, (.mv (.t 50))⟩, ⟨(some 52), (some ⟨51, true⟩), (.mv (.t 8))⟩, ⟨(some 53), (some ⟨51, true⟩), (.mv (.t 52))⟩, ⟨(some 54), (some ⟨53, false⟩), (.mv (.t 5))⟩, ⟨(some 55), (some ⟨53, false⟩), (.load (some 4) (.t 7))⟩, ⟨(some 56), (some ⟨53, false⟩), (.load (some 4) (.t 9))⟩, ⟨(some 57), (some ⟨53, false⟩), (.call (.c (.fn (.func 32) [])) [(.t 54), (.t 55), (.t 56)])⟩, ⟨(some 58), (some ⟨53, false⟩), (.un .not (.t 57))⟩, ⟨(some 59), (some ⟨51, true⟩), (.pick (.t 53) (.c (.t (.bool true))) (.t 58))⟩, ⟨(some 60), (some ⟨51, true⟩), (.mv (.t 59))⟩, ⟨(some 61), (some ⟨60, false⟩), (.mv (.t 5))⟩, ⟨(some 62), (some ⟨60, false⟩), (.mv (.t 6))⟩, ⟨(some 63), (some ⟨60, false⟩), (.load (some 4) (.t 9))⟩, ⟨(some 64), (some ⟨60, false⟩), (.call (.c (.fn (.func 33) [])) [(.t 61), (.t 62), (.t 63)])⟩, ⟨(some 65), (some ⟨51, true⟩), (.pick (.t 60) (.c (.t (.bool true))) (.t 64))⟩, ⟨(some 66), none, (.pick (.t 51) (.t 65) (.c (.t (.bool false))))⟩]) (.cond (.t 66) (.seq (.ops [⟨(some 4), none, (.mv (.c (.t (.bool false))))⟩]) .ret) .skip)) (.seq (.drawn [(.mk 0 false ⟨(some 67), none, (.mv (.t 5))⟩ []), (.mk 1 false ⟨(some 68), none, (.lit (some false) 4 0 [.nils, (.t (.str [])), (.t (.str [])), (.t (.str []))] [])⟩ []), (.mk 2 false ⟨(some 69), none, (.mv (.t 6))⟩ []), (.mk 4 false ⟨(some 71), none, (.load (some 4) (.t 7))⟩ []), (.mk 5 false ⟨(some 72), none, (.lit (some false) 4 1 [.nils, (.t (.str [])), (.t (.str [])), (.t (.str []))] [⟨0, (.t 71)⟩])⟩ []), (.mk 7 false ⟨(some 74), none, (.load (some 4) (.t 7))⟩ []), (.mk 3 true ⟨(some 70), none, (.append 4 72 (.t 68) (.t 69))⟩ [⟨(some 71), none, (.load (some 4) (.t 7))⟩, ⟨(some 74), none, (.load (some 4) (.t 7))⟩]), (.mk 6 true ⟨(some 73), none, (.append 4 72 (.t 70) (.t 72))⟩ [⟨(some 74), none, (.load (some 4) (.t 7))⟩]), (.mk 8 false ⟨(some 75), none, (.call (.c (.fn (.func 30) [])) [(.t 67), (.t 73), (.t 74)])⟩ []), (.mk 9 false ⟨(some 11), none, (.mv (.t 75))⟩ [])]) (.seq (.seq (.ops [⟨(some 76), none, (.mv (.t 11))⟩, ⟨(some 77), none, (.mv (.t 76))⟩, ⟨(some 78), (some ⟨77, true⟩), (.mv (.t 10))⟩, ⟨(some 79), (some ⟨77, true⟩), (.mv (.t 8))⟩, ⟨(some 80), (some ⟨77, true⟩), (.eqB false (.t 78) (.t 79))⟩, ⟨(some 81), none, (.pick (.t 77) (.t 80) (.c (.t (.bool false))))⟩, ⟨(some 82), none, (.mv (.t 81))⟩, ⟨(some 83), (some ⟨82, false⟩), (.mv (.t 11))⟩, ⟨(some 84), (some ⟨82, false⟩), (.un .not (.t 83))⟩, ⟨(some 85), (some ⟨82, false⟩), (.mv (.t 84))⟩, ⟨(some 86), (some ⟨85, true⟩), (.mv (.t 10))⟩, ⟨(some 87), (some ⟨82, false⟩), (.pick (.t 85) (.t 86) (.c (.t (.bool false))))⟩, ⟨(some 88), none, (.pick (.t 82) (.c (.t (.bool true))) (.t 87))⟩]) (.cond (.t 88) (.seq (.ops [⟨(some 4), none, (.mv (.c (.t (.bool false))))⟩]) .ret) .skip)) (.seq (.ops [⟨(some 90), none, (.mv (.t 1))⟩, ⟨(some 91), none, (.call (.c (.fn (.func 34) [])) [(.t 90)])⟩, ⟨(some 89), none, (.mv (.t 91))⟩, ⟨(some 92), none, (.extract (.t 89) 0)⟩, ⟨(some 93), none, (.extract (.t 89) 1)⟩, ⟨(some 94), none, (.extract (.t 89) 2)⟩, ⟨(some 13), none, (.new [.nils, (.t (.str [])), (.t (.str [])), (.t (.str []))])⟩, ⟨(some 14), none, (.new [(.t (.int .i64 0)), (.t (.str [])), (.t (.str [])), (.t (.str []))])⟩, ⟨(some 12), none, (.mv (.t 92))⟩, ⟨none, none, (.store 4 (.t 13) (.t 93))⟩, ⟨none, none, (.store 4 (.t 14) (.t 94))⟩]) (.seq (.seq (.ops [⟨(some 95), none, (.mv (.t 8))⟩, ⟨(some 96), none, (.mv (.t 95))⟩, ⟨(some 97), (some ⟨96, true⟩), (.mv (.t 5))⟩, ⟨(some 98), (some ⟨96, true⟩), (.load (some 4) (.t 7))⟩, ⟨(some 99), (some ⟨96, true⟩), (.load (some 4) (.t 14))⟩, ⟨(some 100), (some ⟨96, true⟩), (.call (.c (.fn (.func 32) [])) [(.t 97), (.t 98), (.t 99)])⟩, ⟨(some 101), none, (.pick (.t 96) (.t 100) (.c (.t (.bool false))))⟩, ⟨(some 102), none, (.mv (.t 101))⟩, ⟨(some 103), (some ⟨102, true⟩), (.mv (.t 5))⟩, ⟨(some 104), (some ⟨102, true⟩), (.mv (.t 6))⟩, ⟨(some 105), (some ⟨102, true⟩), (.load (some 4) (.t 14))⟩, ⟨(some 106), (some ⟨102, true⟩), (.call (.c (.fn (.func 33) [])) [(.t 103), (.t 104), (.t 105)])⟩, ⟨(some 107), (some ⟨102, true⟩), (.un .not (.t 106))⟩, ⟨(some 108), none, (.pick (.t 102) (.t 107) (.c (.t (.bool false))))⟩]) (.cond (.t 108) (.seq (.ops [⟨(some 4), none, (.mv (.c (.t (.bool false))))⟩]) .ret) .skip)) (.seq (.ops [⟨(some 110), none, (.mv (.t 1))⟩, ⟨(some 111), none, (.call (.c (.fn (.func 29) [])) [(.t 110)])⟩, ⟨(some 109), none, (.mv (.t 111))⟩, ⟨(some 112), none, (.extract (.t 109) 0)⟩, ⟨(some 113), none, (.extract (.t 109) 1)⟩, ⟨(some 114), none, (.extract (.t 109) 2)⟩, ⟨(some 17), none, (.new [.nils, (.t (.str [])), (.t (.str [])), (.t (.str []))])⟩, ⟨(some 15), none, (.mv (.t 112))⟩, ⟨(some 16), none, (.mv (.t 113))⟩, ⟨none, none, (.store 4 (.t 17) (.t 114))⟩]) (.seq (.seq (.ops [⟨(some 18), none, (.mv (.c (.t (.int .i64 0))))⟩]) (.block 0 (.loop (.seq (.seq (.ops [⟨(some 115), none, (.mv (.t 18))⟩, ⟨(some 116), none, (.mv (.t 6))⟩, ⟨(some 117), none, (.len false (.t 116))⟩, ⟨(some 118), none, (.bin .lss (.t 115) (.t 117))⟩]) (.cond (.t 118) .skip (.exit 0))) (.seq (.block 1 (.seq (.ops [⟨(some 121), none, (.mv (.t 5))⟩, ⟨(some 122), none, (.mv (.t 16))⟩, ⟨(some 123), none, (.mv (.t 6))⟩, ⟨(some 124), none, (.mv (.t 18))⟩, ⟨(some 125), none, (.indexAddr 4 (.t 123) (.t 124))⟩, ⟨(some 126), none, (.load (some 4) (.t 125))⟩, ⟨(some 127), none, (.call (.c (.fn (.func 30) [])) [(.t 121), (.t 122), (.t 126)])⟩, ⟨(some 128), none, (.un .not (.t 127))⟩]) (.cond (.t 128) (.seq (.ops [⟨(some 4), none, (.mv (.c (.t (.bool true))))⟩]) .ret) .skip))) (.ops [⟨(some 119), none, (.mv (.t 18))⟩, ⟨(some 120), none, (.bin .add (.t 119) (.c (.t (.int .i64 1))))⟩, ⟨(some 18), none, (.mv (.t 120))⟩])))))) (.seq (.ops [⟨(some 129), none, (.mv (.t 8))⟩, ⟨(some 130), none, (.un .not (.t 129))⟩, ⟨(some 131), none, (.mv (.t 130))⟩, ⟨(some 132), (some ⟨131, false⟩), (.mv (.t 5))⟩, ⟨(some 133), (some ⟨131, false⟩), (.mv (.t 16))⟩, ⟨(some 134), (some ⟨131, false⟩), (.load (some 4) (.t 7))⟩, ⟨(some 135), (some ⟨131, false⟩), (.call (.c (.fn (.func 30) [])) [(.t 132), (.t 133), (.t 134)])⟩, ⟨(some 136), none, (.pick (.t 131) (.c (.t (.bool true))) (.t 135))⟩, ⟨(some 4), none, (.mv (.t 136))⟩]) .ret))))))))))))))
theorem k_laws_FnGateCovers : comp Tryd.prog 137 (Tryd.f6.body.getD .skip) = some c_laws_FnGateCovers := by kernel_rfl

set_option maxHeartbeats 32000000 in
set_option maxRecDepth 20000 in
theorem lawFnGateCovers (a0 a1 : List UInt8) (σ : Store) (hg : PowAt σ) : ACalls Tryd.prog 6 [.t (.lst 1 (byteT a0)), .t (.lst 1 (byteT a1))] σ fun r _ => r = .t (.bool true) := by
  refine acalls_of Tryd.func6 (by decide +kernel) (code := Tryd.f6.body.getD .skip) (n := 137) (c := c_laws_FnGateCovers) (rs := [(.tmp 4)]) rfl rfl k_laws_FnGateCovers (by kernel_rfl) (by simp) (fun hσ => ?_)
  have hh : True := trivial
  have fin : ∀ {u : V} {τ : Store}, u = .t (.bool true) → u.lt σ.length = true → retV σ.length (fun r _ => r = .t (.bool true)) (σ ++ τ) (some [u]) := fun h h2 => ret_same rfl hσ h2 h
  have fin0 : ∀ {u : V}, u = .t (.bool true) → retV σ.length (fun r _ => r = .t (.bool true)) σ (some [u]) := fun h => ret_same0 rfl h
  simp -implicitDefEqProofs only [c_laws_FnGateCovers, byteT_len, S0, S1, S2, S3, S4, S5, S6, S7, S8, S9, S10, S11, S12, S13, S14, S15, S16, S17, opv, opvs, eget, env0, setD, lenStr, lenSl, isNilP, isNilS, putAt, if_true, if_false, reduceCtorEq, Nat.reduceLeDiff, Nat.reduceEqDiff, Nat.reduceSub, Nat.reduceMul, Nat.reduceAdd]
  rcases g0 : decide (((a0.length : Nat) : Int) > 1048576) with _ | _
  rotate_left
  · simp -implicitDefEqProofs only [byteT_len, nat_nn, Nat.zero_le, Nat.zero_add, List.length_map, List.nil_append, List.getElem?_cons_zero, List.getElem?_cons_succ, List.set_cons_zero, List.set_cons_succ, q_rows_r, Option.map_some, List.length_cons, List.length_nil, Nat.reduceLT, true_and, GateRule.vs, GateAct.vs, cond_t, cond_f, Bool.not_true, Bool.not_false, g0, S0, S1, S2, S3, S4, S5, S6, S7, S8, S9, S10, S11, S12, S13, S14, S15, S16, S17, opv, opvs, eget, env0, setD, lenStr, lenSl, isNilP, isNilS, putAt, if_true, if_false, reduceCtorEq, Nat.reduceLeDiff, Nat.reduceEqDiff, Nat.reduceSub, Nat.reduceMul, Nat.reduceAdd]
    first | exact fin rfl rfl | exact fin0 rfl
  rcases g1 : decide (((a1.length : Nat) : Int) > 1048576) with _ | _
  rotate_left
  · simp -implicitDefEqProofs only [byteT_len, nat_nn, Nat.zero_le, Nat.zero_add, List.length_map, List.nil_append, List.getElem?_cons_zero, List.getElem?_cons_succ, List.set_cons_zero, List.set_cons_succ, q_rows_r, Option.map_some, List.length_cons, List.length_nil, Nat.reduceLT, true_and, GateRule.vs, GateAct.vs, cond_t, cond_f, Bool.not_true, Bool.not_false, g0, g1, S0, S1, S2, S3, S4, S5, S6, S7, S8, S9, S10, S11, S12, S13, S14, S15, S16, S17, opv, opvs, eget, env0, setD, lenStr, lenSl, isNilP, isNilS, putAt, if_true, if_false, reduceCtorEq, Nat.reduceLeDiff, Nat.reduceEqDiff, Nat.reduceSub, Nat.reduceMul, Nat.reduceAdd]
    first | exact fin rfl rfl | exact fin0 rfl
  simp -implicitDefEqProofs only [byteT_len, nat_nn, Nat.zero_le, Nat.zero_add, List.length_map, List.nil_append, List.getElem?_cons_zero, List.getElem?_cons_succ, List.set_cons_zero, List.set_cons_succ, q_rows_r, Option.map_some, List.length_cons, List.length_nil, Nat.reduceLT, true_and, GateRule.vs, GateAct.vs, cond_t, cond_f, Bool.not_true, Bool.not_false, g0, g1, S0, S1, S2, S3, S4, S5, S6, S7, S8, S9, S10, S11, S12, S13, S14, S15, S16, S17, opv, opvs, eget, env0, setD, lenStr, lenSl, isNilP, isNilS, putAt, if_true, if_false, reduceCtorEq, Nat.reduceLeDiff, Nat.reduceEqDiff, Nat.reduceSub, Nat.reduceMul, Nat.reduceAdd]
  refine call_by (by rw [List.append_nil]; exact spec_DrawGateCovers a0 _) ?_
  rintro r s ⟨⟨tm, rules, q, rfl, htm, hrl, hru, hq⟩, rfl⟩
  have ht := ok_teams htm
  have hu := ok_rules hrl hru
  have hqo := ok_rule hq
  have i1 := impl_GateCovers tm ht rules hu q hqo
  have i2 := impl_GateUncovered tm ht rules hu q hqo
  have i3 := spec_GateCovers tm ht rules hu q hqo
  have hao := unc_ok_act (rules := rules) hrl htm.1 hq
  have i4 := impl_GateAllows tm ht q hqo (uncA tm rules q) hao
  have i5 := laws_wgSome tm ht rules hu (uncA tm rules q) hao
  simp only [GateRule.vs, GateAct.vs, uncV] at i1 i2 i3 i4 i5
  simp -implicitDefEqProofs only [byteT_len, nat_nn, Nat.zero_le, Nat.zero_add, List.length_map, List.nil_append, List.getElem?_cons_zero, List.getElem?_cons_succ, List.set_cons_zero, List.set_cons_succ, q_rows_r, Option.map_some, List.length_cons, List.length_nil, Nat.reduceLT, true_and, GateRule.vs, GateAct.vs, cond_t, cond_f, Bool.not_true, Bool.not_false, S0, S1, S2, S3, S4, S5, S6, S7, S8, S9, S10, S11, S12, S13, S14, S15, S16, S17, opv, opvs, eget, env0, setD, lenStr, lenSl, isNilP, isNilS, putAt, if_true, if_false, reduceCtorEq, Nat.reduceLeDiff, Nat.reduceEqDiff, Nat.reduceSub, Nat.reduceMul, Nat.reduceAdd]
  refine call_pure (i1 _) ?_
  simp -implicitDefEqProofs only [byteT_len, nat_nn, Nat.zero_le, Nat.zero_add, List.length_map, List.nil_append, List.getElem?_cons_zero, List.getElem?_cons_succ, List.set_cons_zero, List.set_cons_succ, q_rows_r, Option.map_some, List.length_cons, List.length_nil, Nat.reduceLT, true_and, GateRule.vs, GateAct.vs, cond_t, cond_f, Bool.not_true, Bool.not_false, S0, S1, S2, S3, S4, S5, S6, S7, S8, S9, S10, S11, S12, S13, S14, S15, S16, S17, opv, opvs, eget, env0, setD, lenStr, lenSl, isNilP, isNilS, putAt, if_true, if_false, reduceCtorEq, Nat.reduceLeDiff, Nat.reduceEqDiff, Nat.reduceSub, Nat.reduceMul, Nat.reduceAdd]
  refine call_pure (i2 _ (by repeat' (first | exact hg | refine VarAt.app ?_ _))) ?_
  simp -implicitDefEqProofs only [byteT_len, nat_nn, Nat.zero_le, Nat.zero_add, List.length_map, List.nil_append, List.getElem?_cons_zero, List.getElem?_cons_succ, List.set_cons_zero, List.set_cons_succ, q_rows_r, Option.map_some, List.length_cons, List.length_nil, Nat.reduceLT, true_and, GateRule.vs, GateAct.vs, cond_t, cond_f, Bool.not_true, Bool.not_false, S0, S1, S2, S3, S4, S5, S6, S7, S8, S9, S10, S11, S12, S13, S14, S15, S16, S17, opv, opvs, eget, env0, setD, lenStr, lenSl, isNilP, isNilS, putAt, if_true, if_false, reduceCtorEq, Nat.reduceLeDiff, Nat.reduceEqDiff, Nat.reduceSub, Nat.reduceMul, Nat.reduceAdd]
  refine call_pure (i3 _) ?_
  simp -implicitDefEqProofs only [byteT_len, nat_nn, Nat.zero_le, Nat.zero_add, List.length_map, List.nil_append, List.getElem?_cons_zero, List.getElem?_cons_succ, List.set_cons_zero, List.set_cons_succ, q_rows_r, Option.map_some, List.length_cons, List.length_nil, Nat.reduceLT, true_and, GateRule.vs, GateAct.vs, cond_t, cond_f, Bool.not_true, Bool.not_false, ne_self, beq_self_eq_true, S0, S1, S2, S3, S4, S5, S6, S7, S8, S9, S10, S11, S12, S13, S14, S15, S16, S17, opv, opvs, eget, env0, setD, lenStr, lenSl, isNilP, isNilS, putAt, if_true, if_false, reduceCtorEq, Nat.reduceLeDiff, Nat.reduceEqDiff, Nat.reduceSub, Nat.reduceMul, Nat.reduceAdd]
  have F1 : uncB tm rules q = true → coversB tm rules q = false := fun h => by
    rw [uncB, Bool.and_eq_true, Bool.not_eq_true'] at h
    rw [coversB, h.2, Bool.and_false]
  have F2 := fun h => (unc_act (tm := tm) (rules := rules) (q := q) h).1
  have F3 : uncB tm rules q = true → someB tm rules (uncA tm rules q) = false := fun h => by
    rw [Bool.eq_false_iff]
    intro hs
    obtain ⟨x, hx, hxa⟩ := some_iff.1 hs
    rw [(unc_act h).2 x hx] at hxa
    cases hxa
  have F4 : uncB tm rules q = true → allRules tm rules q = true := fun h => by
    rw [uncB, Bool.and_eq_true] at h
    exact h.1
  have F5 : uncB tm rules q = false → coversB tm rules q = allRules tm rules q := fun h => by
    rw [uncB] at h
    rw [coversB]
    cases hA : allRules tm rules q with
    | false => rfl
    | true => rw [hA] at h; simpa using h
  have hu2 : GateRule.OkS (rules ++ [q]) := ok_rules2 hrl hru hq
  have i6 := impl_GateCovers tm ht (rules ++ [q]) hu2 q hqo
  rw [covers_more] at i6
  have sq : ∀ s' : Store, SeesA s' (.agg q.vs) (.agg q.vs) := fun s' => .inr ⟨q.ts, _, rfl, rfl, by simp only [GateRule.ts, SeesL]; exact ⟨_, _, rfl, sees_ints' q.Verbs, _, _, rfl, by simp [Sees], _, _, rfl, by simp [Sees], _, _, rfl, by simp [Sees], rfl⟩⟩
  have stm : ∀ s' : Store, SeesA s' (.t (tGateTeamS tm)) (.t (tGateTeamS tm)) := fun s' => .inl ⟨_, rfl, sees_teams' tm⟩
  simp only [GateRule.vs] at sq
  obtain ⟨cv, hcv⟩ : ∃ b, b = coversB tm rules q := ⟨_, rfl⟩
  rcases hun : uncB tm rules q with _ | _
  · have f5 := F5 hun
    rcases hA : allRules tm rules q with _ | _
    · rw [hA] at f5
      rw [hA] at i6
      simp -implicitDefEqProofs only [byteT_len, nat_nn, Nat.zero_le, Nat.zero_add, List.length_map, List.nil_append, List.getElem?_cons_zero, List.getElem?_cons_succ, List.set_cons_zero, List.set_cons_succ, q_rows_r, Option.map_some, List.length_cons, List.length_nil, Nat.reduceLT, true_and, GateRule.vs, GateAct.vs, cond_t, cond_f, Bool.not_true, Bool.not_false, hun, f5, S0, S1, S2, S3, S4, S5, S6, S7, S8, S9, S10, S11, S12, S13, S14, S15, S16, S17, opv, opvs, eget, env0, setD, lenStr, lenSl, isNilP, isNilS, putAt, if_true, if_false, reduceCtorEq, Nat.reduceLeDiff, Nat.reduceEqDiff, Nat.reduceSub, Nat.reduceMul, Nat.reduceAdd]
      refine ⟨by simp only [maxBy]; omega, by omega, fun he => ?_, fun hne => ?_⟩
      · have hr0 : rules = [] := by simpa using he
        refine ⟨by simp [maxBy], fun h => h.elim, fun _ => ?_⟩
        refine call_bor i6 rfl ⟨_, _, rfl, stm _, _, _, rfl, sees_new1 (q := q) hr0 (by simp), _, _, rfl, sq _, rfl⟩ ?_
        simp -implicitDefEqProofs only [byteT_len, nat_nn, Nat.zero_le, Nat.zero_add, List.length_map, List.nil_append, List.getElem?_cons_zero, List.getElem?_cons_succ, List.set_cons_zero, List.set_cons_succ, q_rows_r, Option.map_some, List.length_cons, List.length_nil, Nat.reduceLT, true_and, GateRule.vs, GateAct.vs, cond_t, cond_f, Bool.not_true, Bool.not_false, hun, f5, beq_self_eq_true, tfB, ftB, S0, S1, S2, S3, S4, S5, S6, S7, S8, S9, S10, S11, S12, S13, S14, S15, S16, S17, opv, opvs, eget, env0, setD, lenStr, lenSl, isNilP, isNilS, putAt, if_true, if_false, reduceCtorEq, Nat.reduceLeDiff, Nat.reduceEqDiff, Nat.reduceSub, Nat.reduceMul, Nat.reduceAdd]
        refine call_by (by rw [List.append_nil]; exact spec_DrawGateAllows a1 _) ?_
        rintro r s' ⟨⟨tm2, q2, a, rfl, _, _, haS⟩, rfl⟩
        have haO := ok_act haS
        have j1 := impl_GateAllows tm ht q hqo a haO
        have j2 := laws_wgSome tm ht rules hu a haO
        simp only [GateRule.vs, GateAct.vs] at j1 j2
        simp -implicitDefEqProofs only [byteT_len, nat_nn, Nat.zero_le, Nat.zero_add, List.length_map, List.nil_append, List.getElem?_cons_zero, List.getElem?_cons_succ, List.set_cons_zero, List.set_cons_succ, q_rows_r, Option.map_some, List.length_cons, List.length_nil, Nat.reduceLT, true_and, GateRule.vs, GateAct.vs, cond_t, cond_f, Bool.not_true, Bool.not_false, hun, f5, S0, S1, S2, S3, S4, S5, S6, S7, S8, S9, S10, S11, S12, S13, S14, S15, S16, S17, opv, opvs, eget, env0, setD, lenStr, lenSl, isNilP, isNilS, putAt, if_true, if_false, reduceCtorEq, Nat.reduceLeDiff, Nat.reduceEqDiff, Nat.reduceSub, Nat.reduceMul, Nat.reduceAdd]
        refine call_by (by rw [List.append_nil]; exact spec_DrawGateCovers a1 _) ?_
        rintro r s'' ⟨⟨tm3, others, q3, rfl, _, hol, hor, _⟩, rfl⟩
        have hoo := ok_rules hol hor
        simp -implicitDefEqProofs only [byteT_len, nat_nn, Nat.zero_le, Nat.zero_add, List.length_map, List.nil_append, List.getElem?_cons_zero, List.getElem?_cons_succ, List.set_cons_zero, List.set_cons_succ, q_rows_r, Option.map_some, List.length_cons, List.length_nil, Nat.reduceLT, true_and, GateRule.vs, GateAct.vs, cond_t, cond_f, Bool.not_true, Bool.not_false, hun, f5, S0, S1, S2, S3, S4, S5, S6, S7, S8, S9, S10, S11, S12, S13, S14, S15, S16, S17, opv, opvs, eget, env0, setD, lenStr, lenSl, isNilP, isNilS, putAt, if_true, if_false, reduceCtorEq, Nat.reduceLeDiff, Nat.reduceEqDiff, Nat.reduceSub, Nat.reduceMul, Nat.reduceAdd]
        have hga : ∀ y ∈ rules, ∀ σ : Store, _ := fun y hy => impl_GateCovers tm ht others hoo y (hu.2 y hy)
        have k3 := impl_GateCovers tm ht others hoo q hqo
        simp only [GateRule.vs] at hga k3
        have hR := hRR rules
        refine loop_p [18, 5, 6, 7, 8, 16] [5, 6, 7, 8, 16] (fun k : Nat => [(18, .t (.int .i64 (k : Nat)))]) (fun k => k ≤ (rules).length ∧ ((rules).take k).all (coversB tm others) = true) (fun k => (rules).length - k) 0 (by simp) ⟨Nat.zero_le _, rfl⟩ rfl ?_
        rintro k ⟨hk, hall⟩
        try simp -implicitDefEqProofs only [keep, List.length_map, S0, S1, S2, S3, S4, S5, S6, S7, S8, S9, S10, S11, S12, S13, S14, S15, S16, S17, opv, opvs, eget, env0, setD, lenStr, lenSl, isNilP, isNilS, putAt, if_true, if_false, reduceCtorEq, Nat.reduceLeDiff, Nat.reduceEqDiff, Nat.reduceSub, Nat.reduceMul, Nat.reduceAdd]
        refine cond_split (fun h1 => ?_) (fun h1 => ?_)
        · obtain ⟨x, hx, hlt⟩ := at_of h1
          clear h1 hh
          have hh : True := trivial
          simp -implicitDefEqProofs only [hx, nat_nn, Nat.zero_le, List.getElem?_map, Option.map_some, GateRule.ts, List.length_map, hR, GateRule.vs, i64_succ (show k < 4611686018427387904 by omega), S0, S1, S2, S3, S4, S5, S6, S7, S8, S9, S10, S11, S12, S13, S14, S15, S16, S17, opv, opvs, eget, env0, setD, lenStr, lenSl, isNilP, isNilS, putAt, if_true, if_false, reduceCtorEq, Nat.reduceLeDiff, Nat.reduceEqDiff, Nat.reduceSub, Nat.reduceMul, Nat.reduceAdd]
          repeat' (first
          | ((with_reducible refine cond_known (fun h => ?_) (fun h => ?_)) <;> (replace hh := And.intro h hh; clear h; simp -implicitDefEqProofs only [hh, cond_t, cond_f, hx, nat_nn, Nat.zero_le, List.getElem?_map, Option.map_some, GateRule.ts, List.length_map, hR, GateRule.vs, i64_succ (show k < 4611686018427387904 by omega), S0, S1, S2, S3, S4, S5, S6, S7, S8, S9, S10, S11, S12, S13, S14, S15, S16, S17, opv, opvs, eget, env0, setD, lenStr, lenSl, isNilP, isNilS, putAt, if_true, if_false, reduceCtorEq, Nat.reduceLeDiff, Nat.reduceEqDiff, Nat.reduceSub, Nat.reduceMul, Nat.reduceAdd]))
          | ((with_reducible refine call_pure (hga x (mem_at hx) _) ?_); simp -implicitDefEqProofs only [hh, cond_t, cond_f, hx, nat_nn, Nat.zero_le, List.getElem?_map, Option.map_some, GateRule.ts, List.length_map, hR, GateRule.vs, i64_succ (show k < 4611686018427387904 by omega), S0, S1, S2, S3, S4, S5, S6, S7, S8, S9, S10, S11, S12, S13, S14, S15, S16, S17, opv, opvs, eget, env0, setD, lenStr, lenSl, isNilP, isNilS, putAt, if_true, if_false, reduceCtorEq, Nat.reduceLeDiff, Nat.reduceEqDiff, Nat.reduceSub, Nat.reduceMul, Nat.reduceAdd])
          | (first | ((with_reducible refine fin0 ?_); refine tb ?_; (try simp only [Known] at hh); rfl) | ((with_reducible refine fin ?_ ?_); rotate_left; exact rfl; refine tb ?_; (try simp only [Known] at hh); rfl) | (refine lk_p0 (k + 1) (by simp) (by simp) (by omega) ⟨by omega, all_step hx hall ?_⟩ rfl; (try simp only [Known] at hh); grind) | (refine lk_p (k + 1) (by simp) (by simp) hσ rfl (by omega) ⟨by omega, all_step hx hall ?_⟩ rfl rfl; (try simp only [Known] at hh); grind) | (refine lk_pm (k + 1) (Nat.le_refl _) (by simp) hσ rfl rfl (by omega) ⟨by omega, all_step hx hall ?_⟩ (by simp [ltE, keep, eget, V.lt]) rfl; (try simp only [Known] at hh); grind)))
        replace hall := all_len hall ((end_of h1 hk).trans (by rfl))
        clear h1 hk
        try simp -implicitDefEqProofs only [S0, S1, S2, S3, S4, S5, S6, S7, S8, S9, S10, S11, S12, S13, S14, S15, S16, S17, opv, opvs, eget, env0, setD, lenStr, lenSl, isNilP, isNilS, putAt, if_true, if_false, reduceCtorEq, Nat.reduceLeDiff, Nat.reduceEqDiff, Nat.reduceSub, Nat.reduceMul, Nat.reduceAdd]
        try simp -implicitDefEqProofs only [byteT_len, nat_nn, Nat.zero_le, Nat.zero_add, List.length_map, List.nil_append, List.getElem?_cons_zero, List.getElem?_cons_succ, List.set_cons_zero, List.set_cons_succ, q_rows_r, Option.map_some, List.length_cons, List.length_nil, Nat.reduceLT, true_and, GateRule.vs, GateAct.vs, cond_t, cond_f, Bool.not_true, Bool.not_false, hun, f5, S0, S1, S2, S3, S4, S5, S6, S7, S8, S9, S10, S11, S12, S13, S14, S15, S16, S17, opv, opvs, eget, env0, setD, lenStr, lenSl, isNilP, isNilS, putAt, if_true, if_false, reduceCtorEq, Nat.reduceLeDiff, Nat.reduceEqDiff, Nat.reduceSub, Nat.reduceMul, Nat.reduceAdd]
        first | exact fin rfl rfl | exact fin0 rfl
      · refine ⟨by simp only [maxBy]; omega, by omega, ?_⟩
        refine ⟨.inr ?_, ?_⟩
        · refine ⟨fun _ => ⟨74, _, rfl, rfl, ?_⟩, trivial⟩
          show evLoad (some 4) _ (.ptr s.length 0) _
          simp [evLoad, onBox, ldV, eqK]
        refine call_bor i6 rfl ⟨_, _, rfl, stm _, _, _, rfl, sees_newN (l := rules ++ [q]) (by simp [GateRule.ts]) (by simp), _, _, rfl, sq _, rfl⟩ ?_
        simp -implicitDefEqProofs only [byteT_len, nat_nn, Nat.zero_le, Nat.zero_add, List.length_map, List.nil_append, List.getElem?_cons_zero, List.getElem?_cons_succ, List.set_cons_zero, List.set_cons_succ, q_rows_r, Option.map_some, List.length_cons, List.length_nil, Nat.reduceLT, true_and, GateRule.vs, GateAct.vs, cond_t, cond_f, Bool.not_true, Bool.not_false, hun, f5, beq_self_eq_true, tfB, ftB, S0, S1, S2, S3, S4, S5, S6, S7, S8, S9, S10, S11, S12, S13, S14, S15, S16, S17, opv, opvs, eget, env0, setD, lenStr, lenSl, isNilP, isNilS, putAt, if_true, if_false, reduceCtorEq, Nat.reduceLeDiff, Nat.reduceEqDiff, Nat.reduceSub, Nat.reduceMul, Nat.reduceAdd]
        refine call_by (by rw [List.append_nil]; exact spec_DrawGateAllows a1 _) ?_
        rintro r s' ⟨⟨tm2, q2, a, rfl, _, _, haS⟩, rfl⟩
        have haO := ok_act haS
        have j1 := impl_GateAllows tm ht q hqo a haO
        have j2 := laws_wgSome tm ht rules hu a haO
        simp only [GateRule.vs, GateAct.vs] at j1 j2
        simp -implicitDefEqProofs only [byteT_len, nat_nn, Nat.zero_le, Nat.zero_add, List.length_map, List.nil_append, List.getElem?_cons_zero, List.getElem?_cons_succ, List.set_cons_zero, List.set_cons_succ, q_rows_r, Option.map_some, List.length_cons, List.length_nil, Nat.reduceLT, true_and, GateRule.vs, GateAct.vs, cond_t, cond_f, Bool.not_true, Bool.not_false, hun, f5, S0, S1, S2, S3, S4, S5, S6, S7, S8, S9, S10, S11, S12, S13, S14, S15, S16, S17, opv, opvs, eget, env0, setD, lenStr, lenSl, isNilP, isNilS, putAt, if_true, if_false, reduceCtorEq, Nat.reduceLeDiff, Nat.reduceEqDiff, Nat.reduceSub, Nat.reduceMul, Nat.reduceAdd]
        refine call_by (by rw [List.append_nil]; exact spec_DrawGateCovers a1 _) ?_
        rintro r s'' ⟨⟨tm3, others, q3, rfl, _, hol, hor, _⟩, rfl⟩
        have hoo := ok_rules hol hor
        simp -implicitDefEqProofs only [byteT_len, nat_nn, Nat.zero_le, Nat.zero_add, List.length_map, List.nil_append, List.getElem?_cons_zero, List.getElem?_cons_succ, List.set_cons_zero, List.set_cons_succ, q_rows_r, Option.map_some, List.length_cons, List.length_nil, Nat.reduceLT, true_and, GateRule.vs, GateAct.vs, cond_t, cond_f, Bool.not_true, Bool.not_false, hun, f5, S0, S1, S2, S3, S4, S5, S6, S7, S8, S9, S10, S11, S12, S13, S14, S15, S16, S17, opv, opvs, eget, env0, setD, lenStr, lenSl, isNilP, isNilS, putAt, if_true, if_false, reduceCtorEq, Nat.reduceLeDiff, Nat.reduceEqDiff, Nat.reduceSub, Nat.reduceMul, Nat.reduceAdd]
        have hga : ∀ y ∈ rules, ∀ σ : Store, _ := fun y hy => impl_GateCovers tm ht others hoo y (hu.2 y hy)
        have k3 := impl_GateCovers tm ht others hoo q hqo
        simp only [GateRule.vs] at hga k3
        have hR := hRR rules
        refine loop_p [18, 5, 6, 7, 8, 16] [5, 6, 7, 8, 16] (fun k : Nat => [(18, .t (.int .i64 (k : Nat)))]) (fun k => k ≤ (rules).length ∧ ((rules).take k).all (coversB tm others) = true) (fun k => (rules).length - k) 0 (by simp) ⟨Nat.zero_le _, rfl⟩ rfl ?_
        rintro k ⟨hk, hall⟩
        try simp -implicitDefEqProofs only [keep, List.length_map, S0, S1, S2, S3, S4, S5, S6, S7, S8, S9, S10, S11, S12, S13, S14, S15, S16, S17, opv, opvs, eget, env0, setD, lenStr, lenSl, isNilP, isNilS, putAt, if_true, if_false, reduceCtorEq, Nat.reduceLeDiff, Nat.reduceEqDiff, Nat.reduceSub, Nat.reduceMul, Nat.reduceAdd]
        refine cond_split (fun h1 => ?_) (fun h1 => ?_)
        · obtain ⟨x, hx, hlt⟩ := at_of h1
          clear h1 hh
          have hh : True := trivial
          simp -implicitDefEqProofs only [hx, nat_nn, Nat.zero_le, List.getElem?_map, Option.map_some, GateRule.ts, List.length_map, hR, GateRule.vs, i64_succ (show k < 4611686018427387904 by omega), S0, S1, S2, S3, S4, S5, S6, S7, S8, S9, S10, S11, S12, S13, S14, S15, S16, S17, opv, opvs, eget, env0, setD, lenStr, lenSl, isNilP, isNilS, putAt, if_true, if_false, reduceCtorEq, Nat.reduceLeDiff, Nat.reduceEqDiff, Nat.reduceSub, Nat.reduceMul, Nat.reduceAdd]
          repeat' (first
          | ((with_reducible refine cond_known (fun h => ?_) (fun h => ?_)) <;> (replace hh := And.intro h hh; clear h; simp -implicitDefEqProofs only [hh, cond_t, cond_f, hx, nat_nn, Nat.zero_le, List.getElem?_map, Option.map_some, GateRule.ts, List.length_map, hR, GateRule.vs, i64_succ (show k < 4611686018427387904 by omega), S0, S1, S2, S3, S4, S5, S6, S7, S8, S9, S10, S11, S12, S13, S14, S15, S16, S17, opv, opvs, eget, env0, setD, lenStr, lenSl, isNilP, isNilS, putAt, if_true, if_false, reduceCtorEq, Nat.reduceLeDiff, Nat.reduceEqDiff, Nat.reduceSub, Nat.reduceMul, Nat.reduceAdd]))
          | ((with_reducible refine call_pure (hga x (mem_at hx) _) ?_); simp -implicitDefEqProofs only [hh, cond_t, cond_f, hx, nat_nn, Nat.zero_le, List.getElem?_map, Option.map_some, GateRule.ts, List.length_map, hR, GateRule.vs, i64_succ (show k < 4611686018427387904 by omega), S0, S1, S2, S3, S4, S5, S6, S7, S8, S9, S10, S11, S12, S13, S14, S15, S16, S17, opv, opvs, eget, env0, setD, lenStr, lenSl, isNilP, isNilS, putAt, if_true, if_false, reduceCtorEq, Nat.reduceLeDiff, Nat.reduceEqDiff, Nat.reduceSub, Nat.reduceMul, Nat.reduceAdd])
          | (first | ((with_reducible refine fin0 ?_); refine tb ?_; (try simp only [Known] at hh); rfl) | ((with_reducible refine fin ?_ ?_); rotate_left; exact rfl; refine tb ?_; (try simp only [Known] at hh); rfl) | (refine lk_p0 (k + 1) (by simp) (by simp) (by omega) ⟨by omega, all_step hx hall ?_⟩ rfl; (try simp only [Known] at hh); grind) | (refine lk_p (k + 1) (by simp) (by simp) hσ rfl (by omega) ⟨by omega, all_step hx hall ?_⟩ rfl rfl; (try simp only [Known] at hh); grind) | (refine lk_pm (k + 1) (Nat.le_refl _) (by simp) hσ rfl rfl (by omega) ⟨by omega, all_step hx hall ?_⟩ (by simp [ltE, keep, eget, V.lt]) rfl; (try simp only [Known] at hh); grind)))
        replace hall := all_len hall ((end_of h1 hk).trans (by rfl))
        clear h1 hk
        try simp -implicitDefEqProofs only [S0, S1, S2, S3, S4, S5, S6, S7, S8, S9, S10, S11, S12, S13, S14, S15, S16, S17, opv, opvs, eget, env0, setD, lenStr, lenSl, isNilP, isNilS, putAt, if_true, if_false, reduceCtorEq, Nat.reduceLeDiff, Nat.reduceEqDiff, Nat.reduceSub, Nat.reduceMul, Nat.reduceAdd]
        try simp -implicitDefEqProofs only [byteT_len, nat_nn, Nat.zero_le, Nat.zero_add, List.length_map, List.nil_append, List.getElem?_cons_zero, List.getElem?_cons_succ, List.set_cons_zero, List.set_cons_succ, q_rows_r, Option.map_some, List.length_cons, List.length_nil, Nat.reduceLT, true_and, GateRule.vs, GateAct.vs, cond_t, cond_f, Bool.not_true, Bool.not_false, hun, f5, S0, S1, S2, S3, S4, S5, S6, S7, S8, S9, S10, S11, S12, S13, S14, S15, S16, S17, opv, opvs, eget, env0, setD, lenStr, lenSl, isNilP, isNilS, putAt, if_true, if_false, reduceCtorEq, Nat.reduceLeDiff, Nat.reduceEqDiff, Nat.reduceSub, Nat.reduceMul, Nat.reduceAdd]
        first | exact fin rfl rfl | exact fin0 rfl

    · rw [hA] at f5
      rw [hA] at i6
      simp -implicitDefEqProofs only [byteT_len, nat_nn, Nat.zero_le, Nat.zero_add, List.length_map, List.nil_append, List.getElem?_cons_zero, List.getElem?_cons_succ, List.set_cons_zero, List.set_cons_succ, q_rows_r, Option.map_some, List.length_cons, List.length_nil, Nat.reduceLT, true_and, GateRule.vs, GateAct.vs, cond_t, cond_f, Bool.not_true, Bool.not_false, hun, f5, S0, S1, S2, S3, S4, S5, S6, S7, S8, S9, S10, S11, S12, S13, S14, S15, S16, S17, opv, opvs, eget, env0, setD, lenStr, lenSl, isNilP, isNilS, putAt, if_true, if_false, reduceCtorEq, Nat.reduceLeDiff, Nat.reduceEqDiff, Nat.reduceSub, Nat.reduceMul, Nat.reduceAdd]
      refine ⟨by simp only [maxBy]; omega, by omega, fun he => ?_, fun hne => ?_⟩
      · have hr0 : rules = [] := by simpa using he
        refine ⟨by simp [maxBy], fun h => h.elim, fun _ => ?_⟩
        refine call_bor i6 rfl ⟨_, _, rfl, stm _, _, _, rfl, sees_new1 (q := q) hr0 (by simp), _, _, rfl, sq _, rfl⟩ ?_
        simp -implicitDefEqProofs only [byteT_len, nat_nn, Nat.zero_le, Nat.zero_add, List.length_map, List.nil_append, List.getElem?_cons_zero, List.getElem?_cons_succ, List.set_cons_zero, List.set_cons_succ, q_rows_r, Option.map_some, List.length_cons, List.length_nil, Nat.reduceLT, true_and, GateRule.vs, GateAct.vs, cond_t, cond_f, Bool.not_true, Bool.not_false, hun, f5, beq_self_eq_true, tfB, ftB, S0, S1, S2, S3, S4, S5, S6, S7, S8, S9, S10, S11, S12, S13, S14, S15, S16, S17, opv, opvs, eget, env0, setD, lenStr, lenSl, isNilP, isNilS, putAt, if_true, if_false, reduceCtorEq, Nat.reduceLeDiff, Nat.reduceEqDiff, Nat.reduceSub, Nat.reduceMul, Nat.reduceAdd]
        refine call_by (by rw [List.append_nil]; exact spec_DrawGateAllows a1 _) ?_
        rintro r s' ⟨⟨tm2, q2, a, rfl, _, _, haS⟩, rfl⟩
        have haO := ok_act haS
        have j1 := impl_GateAllows tm ht q hqo a haO
        have j2 := laws_wgSome tm ht rules hu a haO
        simp only [GateRule.vs, GateAct.vs] at j1 j2
        simp -implicitDefEqProofs only [byteT_len, nat_nn, Nat.zero_le, Nat.zero_add, List.length_map, List.nil_append, List.getElem?_cons_zero, List.getElem?_cons_succ, List.set_cons_zero, List.set_cons_succ, q_rows_r, Option.map_some, List.length_cons, List.length_nil, Nat.reduceLT, true_and, GateRule.vs, GateAct.vs, cond_t, cond_f, Bool.not_true, Bool.not_false, hun, f5, S0, S1, S2, S3, S4, S5, S6, S7, S8, S9, S10, S11, S12, S13, S14, S15, S16, S17, opv, opvs, eget, env0, setD, lenStr, lenSl, isNilP, isNilS, putAt, if_true, if_false, reduceCtorEq, Nat.reduceLeDiff, Nat.reduceEqDiff, Nat.reduceSub, Nat.reduceMul, Nat.reduceAdd]
        rcases hal : allowsB tm q a with _ | _
        · rw [hal] at j1
          refine call_pure (j1 _) ?_
          simp -implicitDefEqProofs only [byteT_len, nat_nn, Nat.zero_le, Nat.zero_add, List.length_map, List.nil_append, List.getElem?_cons_zero, List.getElem?_cons_succ, List.set_cons_zero, List.set_cons_succ, q_rows_r, Option.map_some, List.length_cons, List.length_nil, Nat.reduceLT, true_and, GateRule.vs, GateAct.vs, cond_t, cond_f, Bool.not_true, Bool.not_false, hun, f5, S0, S1, S2, S3, S4, S5, S6, S7, S8, S9, S10, S11, S12, S13, S14, S15, S16, S17, opv, opvs, eget, env0, setD, lenStr, lenSl, isNilP, isNilS, putAt, if_true, if_false, reduceCtorEq, Nat.reduceLeDiff, Nat.reduceEqDiff, Nat.reduceSub, Nat.reduceMul, Nat.reduceAdd]
          refine call_by (by rw [List.append_nil]; exact spec_DrawGateCovers a1 _) ?_
          rintro r s'' ⟨⟨tm3, others, q3, rfl, _, hol, hor, _⟩, rfl⟩
          have hoo := ok_rules hol hor
          simp -implicitDefEqProofs only [byteT_len, nat_nn, Nat.zero_le, Nat.zero_add, List.length_map, List.nil_append, List.getElem?_cons_zero, List.getElem?_cons_succ, List.set_cons_zero, List.set_cons_succ, q_rows_r, Option.map_some, List.length_cons, List.length_nil, Nat.reduceLT, true_and, GateRule.vs, GateAct.vs, cond_t, cond_f, Bool.not_true, Bool.not_false, hun, f5, S0, S1, S2, S3, S4, S5, S6, S7, S8, S9, S10, S11, S12, S13, S14, S15, S16, S17, opv, opvs, eget, env0, setD, lenStr, lenSl, isNilP, isNilS, putAt, if_true, if_false, reduceCtorEq, Nat.reduceLeDiff, Nat.reduceEqDiff, Nat.reduceSub, Nat.reduceMul, Nat.reduceAdd]
          have hga : ∀ y ∈ rules, ∀ σ : Store, _ := fun y hy => impl_GateCovers tm ht others hoo y (hu.2 y hy)
          have k3 := impl_GateCovers tm ht others hoo q hqo
          simp only [GateRule.vs] at hga k3
          have hR := hRR rules
          refine loop_p [18, 5, 6, 7, 8, 16] [5, 6, 7, 8, 16] (fun k : Nat => [(18, .t (.int .i64 (k : Nat)))]) (fun k => k ≤ (rules).length ∧ ((rules).take k).all (coversB tm others) = true) (fun k => (rules).length - k) 0 (by simp) ⟨Nat.zero_le _, rfl⟩ rfl ?_
          rintro k ⟨hk, hall⟩
          try simp -implicitDefEqProofs only [keep, List.length_map, S0, S1, S2, S3, S4, S5, S6, S7, S8, S9, S10, S11, S12, S13, S14, S15, S16, S17, opv, opvs, eget, env0, setD, lenStr, lenSl, isNilP, isNilS, putAt, if_true, if_false, reduceCtorEq, Nat.reduceLeDiff, Nat.reduceEqDiff, Nat.reduceSub, Nat.reduceMul, Nat.reduceAdd]
          refine cond_split (fun h1 => ?_) (fun h1 => ?_)
          · obtain ⟨x, hx, hlt⟩ := at_of h1
            clear h1 hh
            have hh : True := trivial
            simp -implicitDefEqProofs only [hx, nat_nn, Nat.zero_le, List.getElem?_map, Option.map_some, GateRule.ts, List.length_map, hR, GateRule.vs, i64_succ (show k < 4611686018427387904 by omega), S0, S1, S2, S3, S4, S5, S6, S7, S8, S9, S10, S11, S12, S13, S14, S15, S16, S17, opv, opvs, eget, env0, setD, lenStr, lenSl, isNilP, isNilS, putAt, if_true, if_false, reduceCtorEq, Nat.reduceLeDiff, Nat.reduceEqDiff, Nat.reduceSub, Nat.reduceMul, Nat.reduceAdd]
            repeat' (first
            | ((with_reducible refine cond_known (fun h => ?_) (fun h => ?_)) <;> (replace hh := And.intro h hh; clear h; simp -implicitDefEqProofs only [hh, cond_t, cond_f, hx, nat_nn, Nat.zero_le, List.getElem?_map, Option.map_some, GateRule.ts, List.length_map, hR, GateRule.vs, i64_succ (show k < 4611686018427387904 by omega), S0, S1, S2, S3, S4, S5, S6, S7, S8, S9, S10, S11, S12, S13, S14, S15, S16, S17, opv, opvs, eget, env0, setD, lenStr, lenSl, isNilP, isNilS, putAt, if_true, if_false, reduceCtorEq, Nat.reduceLeDiff, Nat.reduceEqDiff, Nat.reduceSub, Nat.reduceMul, Nat.reduceAdd]))
            | ((with_reducible refine call_pure (hga x (mem_at hx) _) ?_); simp -implicitDefEqProofs only [hh, cond_t, cond_f, hx, nat_nn, Nat.zero_le, List.getElem?_map, Option.map_some, GateRule.ts, List.length_map, hR, GateRule.vs, i64_succ (show k < 4611686018427387904 by omega), S0, S1, S2, S3, S4, S5, S6, S7, S8, S9, S10, S11, S12, S13, S14, S15, S16, S17, opv, opvs, eget, env0, setD, lenStr, lenSl, isNilP, isNilS, putAt, if_true, if_false, reduceCtorEq, Nat.reduceLeDiff, Nat.reduceEqDiff, Nat.reduceSub, Nat.reduceMul, Nat.reduceAdd])
            | (first | ((with_reducible refine fin0 ?_); refine tb ?_; (try simp only [Known] at hh); rfl) | ((with_reducible refine fin ?_ ?_); rotate_left; exact rfl; refine tb ?_; (try simp only [Known] at hh); rfl) | (refine lk_p0 (k + 1) (by simp) (by simp) (by omega) ⟨by omega, all_step hx hall ?_⟩ rfl; (try simp only [Known] at hh); grind) | (refine lk_p (k + 1) (by simp) (by simp) hσ rfl (by omega) ⟨by omega, all_step hx hall ?_⟩ rfl rfl; (try simp only [Known] at hh); grind) | (refine lk_pm (k + 1) (Nat.le_refl _) (by simp) hσ rfl rfl (by omega) ⟨by omega, all_step hx hall ?_⟩ (by simp [ltE, keep, eget, V.lt]) rfl; (try simp only [Known] at hh); grind)))
          replace hall := all_len hall ((end_of h1 hk).trans (by rfl))
          clear h1 hk
          try simp -implicitDefEqProofs only [S0, S1, S2, S3, S4, S5, S6, S7, S8, S9, S10, S11, S12, S13, S14, S15, S16, S17, opv, opvs, eget, env0, setD, lenStr, lenSl, isNilP, isNilS, putAt, if_true, if_false, reduceCtorEq, Nat.reduceLeDiff, Nat.reduceEqDiff, Nat.reduceSub, Nat.reduceMul, Nat.reduceAdd]
          rw [covers_trans f5 (fun y hy => List.all_eq_true.1 hall y hy)] at k3
          try simp -implicitDefEqProofs only [byteT_len, nat_nn, Nat.zero_le, Nat.zero_add, List.length_map, List.nil_append, List.getElem?_cons_zero, List.getElem?_cons_succ, List.set_cons_zero, List.set_cons_succ, q_rows_r, Option.map_some, List.length_cons, List.length_nil, Nat.reduceLT, true_and, GateRule.vs, GateAct.vs, cond_t, cond_f, Bool.not_true, Bool.not_false, hun, f5, S0, S1, S2, S3, S4, S5, S6, S7, S8, S9, S10, S11, S12, S13, S14, S15, S16, S17, opv, opvs, eget, env0, setD, lenStr, lenSl, isNilP, isNilS, putAt, if_true, if_false, reduceCtorEq, Nat.reduceLeDiff, Nat.reduceEqDiff, Nat.reduceSub, Nat.reduceMul, Nat.reduceAdd]
          refine call_pure (k3 _) ?_
          try simp -implicitDefEqProofs only [byteT_len, nat_nn, Nat.zero_le, Nat.zero_add, List.length_map, List.nil_append, List.getElem?_cons_zero, List.getElem?_cons_succ, List.set_cons_zero, List.set_cons_succ, q_rows_r, Option.map_some, List.length_cons, List.length_nil, Nat.reduceLT, true_and, GateRule.vs, GateAct.vs, cond_t, cond_f, Bool.not_true, Bool.not_false, hun, f5, S0, S1, S2, S3, S4, S5, S6, S7, S8, S9, S10, S11, S12, S13, S14, S15, S16, S17, opv, opvs, eget, env0, setD, lenStr, lenSl, isNilP, isNilS, putAt, if_true, if_false, reduceCtorEq, Nat.reduceLeDiff, Nat.reduceEqDiff, Nat.reduceSub, Nat.reduceMul, Nat.reduceAdd]
          first | exact fin rfl rfl | exact fin0 rfl
        · rw [hal] at j1
          rw [some_iff.2 (covers_sound f5 hal)] at j2
          refine call_pure (j1 _) ?_
          simp -implicitDefEqProofs only [byteT_len, nat_nn, Nat.zero_le, Nat.zero_add, List.length_map, List.nil_append, List.getElem?_cons_zero, List.getElem?_cons_succ, List.set_cons_zero, List.set_cons_succ, q_rows_r, Option.map_some, List.length_cons, List.length_nil, Nat.reduceLT, true_and, GateRule.vs, GateAct.vs, cond_t, cond_f, Bool.not_true, Bool.not_false, hun, f5, S0, S1, S2, S3, S4, S5, S6, S7, S8, S9, S10, S11, S12, S13, S14, S15, S16, S17, opv, opvs, eget, env0, setD, lenStr, lenSl, isNilP, isNilS, putAt, if_true, if_false, reduceCtorEq, Nat.reduceLeDiff, Nat.reduceEqDiff, Nat.reduceSub, Nat.reduceMul, Nat.reduceAdd]
          refine call_pure (j2 _) ?_
          simp -implicitDefEqProofs only [byteT_len, nat_nn, Nat.zero_le, Nat.zero_add, List.length_map, List.nil_append, List.getElem?_cons_zero, List.getElem?_cons_succ, List.set_cons_zero, List.set_cons_succ, q_rows_r, Option.map_some, List.length_cons, List.length_nil, Nat.reduceLT, true_and, GateRule.vs, GateAct.vs, cond_t, cond_f, Bool.not_true, Bool.not_false, hun, f5, S0, S1, S2, S3, S4, S5, S6, S7, S8, S9, S10, S11, S12, S13, S14, S15, S16, S17, opv, opvs, eget, env0, setD, lenStr, lenSl, isNilP, isNilS, putAt, if_true, if_false, reduceCtorEq, Nat.reduceLeDiff, Nat.reduceEqDiff, Nat.reduceSub, Nat.reduceMul, Nat.reduceAdd]
          refine call_by (by rw [List.append_nil]; exact spec_DrawGateCovers a1 _) ?_
          rintro r s'' ⟨⟨tm3, others, q3, rfl, _, hol, hor, _⟩, rfl⟩
          have hoo := ok_rules hol hor
          simp -implicitDefEqProofs only [byteT_len, nat_nn, Nat.zero_le, Nat.zero_add, List.length_map, List.nil_append, List.getElem?_cons_zero, List.getElem?_cons_succ, List.set_cons_zero, List.set_cons_succ, q_rows_r, Option.map_some, List.length_cons, List.length_nil, Nat.reduceLT, true_and, GateRule.vs, GateAct.vs, cond_t, cond_f, Bool.not_true, Bool.not_false, hun, f5, S0, S1, S2, S3, S4, S5, S6, S7, S8, S9, S10, S11, S12, S13, S14, S15, S16, S17, opv, opvs, eget, env0, setD, lenStr, lenSl, isNilP, isNilS, putAt, if_true, if_false, reduceCtorEq, Nat.reduceLeDiff, Nat.reduceEqDiff, Nat.reduceSub, Nat.reduceMul, Nat.reduceAdd]
          have hga : ∀ y ∈ rules, ∀ σ : Store, _ := fun y hy => impl_GateCovers tm ht others hoo y (hu.2 y hy)
          have k3 := impl_GateCovers tm ht others hoo q hqo
          simp only [GateRule.vs] at hga k3
          have hR := hRR rules
          refine loop_p [18, 5, 6, 7, 8, 16] [5, 6, 7, 8, 16] (fun k : Nat => [(18, .t (.int .i64 (k : Nat)))]) (fun k => k ≤ (rules).length ∧ ((rules).take k).all (coversB tm others) = true) (fun k => (rules).length - k) 0 (by simp) ⟨Nat.zero_le _, rfl⟩ rfl ?_
          rintro k ⟨hk, hall⟩
          try simp -implicitDefEqProofs only [keep, List.length_map, S0, S1, S2, S3, S4, S5, S6, S7, S8, S9, S10, S11, S12, S13, S14, S15, S16, S17, opv, opvs, eget, env0, setD, lenStr, lenSl, isNilP, isNilS, putAt, if_true, if_false, reduceCtorEq, Nat.reduceLeDiff, Nat.reduceEqDiff, Nat.reduceSub, Nat.reduceMul, Nat.reduceAdd]
          refine cond_split (fun h1 => ?_) (fun h1 => ?_)
          · obtain ⟨x, hx, hlt⟩ := at_of h1
            clear h1 hh
            have hh : True := trivial
            simp -implicitDefEqProofs only [hx, nat_nn, Nat.zero_le, List.getElem?_map, Option.map_some, GateRule.ts, List.length_map, hR, GateRule.vs, i64_succ (show k < 4611686018427387904 by omega), S0, S1, S2, S3, S4, S5, S6, S7, S8, S9, S10, S11, S12, S13, S14, S15, S16, S17, opv, opvs, eget, env0, setD, lenStr, lenSl, isNilP, isNilS, putAt, if_true, if_false, reduceCtorEq, Nat.reduceLeDiff, Nat.reduceEqDiff, Nat.reduceSub, Nat.reduceMul, Nat.reduceAdd]
            repeat' (first
            | ((with_reducible refine cond_known (fun h => ?_) (fun h => ?_)) <;> (replace hh := And.intro h hh; clear h; simp -implicitDefEqProofs only [hh, cond_t, cond_f, hx, nat_nn, Nat.zero_le, List.getElem?_map, Option.map_some, GateRule.ts, List.length_map, hR, GateRule.vs, i64_succ (show k < 4611686018427387904 by omega), S0, S1, S2, S3, S4, S5, S6, S7, S8, S9, S10, S11, S12, S13, S14, S15, S16, S17, opv, opvs, eget, env0, setD, lenStr, lenSl, isNilP, isNilS, putAt, if_true, if_false, reduceCtorEq, Nat.reduceLeDiff, Nat.reduceEqDiff, Nat.reduceSub, Nat.reduceMul, Nat.reduceAdd]))
            | ((with_reducible refine call_pure (hga x (mem_at hx) _) ?_); simp -implicitDefEqProofs only [hh, cond_t, cond_f, hx, nat_nn, Nat.zero_le, List.getElem?_map, Option.map_some, GateRule.ts, List.length_map, hR, GateRule.vs, i64_succ (show k < 4611686018427387904 by omega), S0, S1, S2, S3, S4, S5, S6, S7, S8, S9, S10, S11, S12, S13, S14, S15, S16, S17, opv, opvs, eget, env0, setD, lenStr, lenSl, isNilP, isNilS, putAt, if_true, if_false, reduceCtorEq, Nat.reduceLeDiff, Nat.reduceEqDiff, Nat.reduceSub, Nat.reduceMul, Nat.reduceAdd])
            | (first | ((with_reducible refine fin0 ?_); refine tb ?_; (try simp only [Known] at hh); rfl) | ((with_reducible refine fin ?_ ?_); rotate_left; exact rfl; refine tb ?_; (try simp only [Known] at hh); rfl) | (refine lk_p0 (k + 1) (by simp) (by simp) (by omega) ⟨by omega, all_step hx hall ?_⟩ rfl; (try simp only [Known] at hh); grind) | (refine lk_p (k + 1) (by simp) (by simp) hσ rfl (by omega) ⟨by omega, all_step hx hall ?_⟩ rfl rfl; (try simp only [Known] at hh); grind) | (refine lk_pm (k + 1) (Nat.le_refl _) (by simp) hσ rfl rfl (by omega) ⟨by omega, all_step hx hall ?_⟩ (by simp [ltE, keep, eget, V.lt]) rfl; (try simp only [Known] at hh); grind)))
          replace hall := all_len hall ((end_of h1 hk).trans (by rfl))
          clear h1 hk
          try simp -implicitDefEqProofs only [S0, S1, S2, S3, S4, S5, S6, S7, S8, S9, S10, S11, S12, S13, S14, S15, S16, S17, opv, opvs, eget, env0, setD, lenStr, lenSl, isNilP, isNilS, putAt, if_true, if_false, reduceCtorEq, Nat.reduceLeDiff, Nat.reduceEqDiff, Nat.reduceSub, Nat.reduceMul, Nat.reduceAdd]
          rw [covers_trans f5 (fun y hy => List.all_eq_true.1 hall y hy)] at k3
          try simp -implicitDefEqProofs only [byteT_len, nat_nn, Nat.zero_le, Nat.zero_add, List.length_map, List.nil_append, List.getElem?_cons_zero, List.getElem?_cons_succ, List.set_cons_zero, List.set_cons_succ, q_rows_r, Option.map_some, List.length_cons, List.length_nil, Nat.reduceLT, true_and, GateRule.vs, GateAct.vs, cond_t, cond_f, Bool.not_true, Bool.not_false, hun, f5, S0, S1, S2, S3, S4, S5, S6, S7, S8, S9, S10, S11, S12, S13, S14, S15, S16, S17, opv, opvs, eget, env0, setD, lenStr, lenSl, isNilP, isNilS, putAt, if_true, if_false, reduceCtorEq, Nat.reduceLeDiff, Nat.reduceEqDiff, Nat.reduceSub, Nat.reduceMul, Nat.reduceAdd]
          refine call_pure (k3 _) ?_
          try simp -implicitDefEqProofs only [byteT_len, nat_nn, Nat.zero_le, Nat.zero_add, List.length_map, List.nil_append, List.getElem?_cons_zero, List.getElem?_cons_succ, List.set_cons_zero, List.set_cons_succ, q_rows_r, Option.map_some, List.length_cons, List.length_nil, Nat.reduceLT, true_and, GateRule.vs, GateAct.vs, cond_t, cond_f, Bool.not_true, Bool.not_false, hun, f5, S0, S1, S2, S3, S4, S5, S6, S7, S8, S9, S10, S11, S12, S13, S14, S15, S16, S17, opv, opvs, eget, env0, setD, lenStr, lenSl, isNilP, isNilS, putAt, if_true, if_false, reduceCtorEq, Nat.reduceLeDiff, Nat.reduceEqDiff, Nat.reduceSub, Nat.reduceMul, Nat.reduceAdd]
          first | exact fin rfl rfl | exact fin0 rfl
      · refine ⟨by simp only [maxBy]; omega, by omega, ?_⟩
        refine ⟨.inr ?_, ?_⟩
        · refine ⟨fun _ => ⟨74, _, rfl, rfl, ?_⟩, trivial⟩
          show evLoad (some 4) _ (.ptr s.length 0) _
          simp [evLoad, onBox, ldV, eqK]
        refine call_bor i6 rfl ⟨_, _, rfl, stm _, _, _, rfl, sees_newN (l := rules ++ [q]) (by simp [GateRule.ts]) (by simp), _, _, rfl, sq _, rfl⟩ ?_
        simp -implicitDefEqProofs only [byteT_len, nat_nn, Nat.zero_le, Nat.zero_add, List.length_map, List.nil_append, List.getElem?_cons_zero, List.getElem?_cons_succ, List.set_cons_zero, List.set_cons_succ, q_rows_r, Option.map_some, List.length_cons, List.length_nil, Nat.reduceLT, true_and, GateRule.vs, GateAct.vs, cond_t, cond_f, Bool.not_true, Bool.not_false, hun, f5, beq_self_eq_true, tfB, ftB, S0, S1, S2, S3, S4, S5, S6, S7, S8, S9, S10, S11, S12, S13, S14, S15, S16, S17, opv, opvs, eget, env0, setD, lenStr, lenSl, isNilP, isNilS, putAt, if_true, if_false, reduceCtorEq, Nat.reduceLeDiff, Nat.reduceEqDiff, Nat.reduceSub, Nat.reduceMul, Nat.reduceAdd]
        refine call_by (by rw [List.append_nil]; exact spec_DrawGateAllows a1 _) ?_
        rintro r s' ⟨⟨tm2, q2, a, rfl, _, _, haS⟩, rfl⟩
        have haO := ok_act haS
        have j1 := impl_GateAllows tm ht q hqo a haO
        have j2 := laws_wgSome tm ht rules hu a haO
        simp only [GateRule.vs, GateAct.vs] at j1 j2
        simp -implicitDefEqProofs only [byteT_len, nat_nn, Nat.zero_le, Nat.zero_add, List.length_map, List.nil_append, List.getElem?_cons_zero, List.getElem?_cons_succ, List.set_cons_zero, List.set_cons_succ, q_rows_r, Option.map_some, List.length_cons, List.length_nil, Nat.reduceLT, true_and, GateRule.vs, GateAct.vs, cond_t, cond_f, Bool.not_true, Bool.not_false, hun, f5, S0, S1, S2, S3, S4, S5, S6, S7, S8, S9, S10, S11, S12, S13, S14, S15, S16, S17, opv, opvs, eget, env0, setD, lenStr, lenSl, isNilP, isNilS, putAt, if_true, if_false, reduceCtorEq, Nat.reduceLeDiff, Nat.reduceEqDiff, Nat.reduceSub, Nat.reduceMul, Nat.reduceAdd]
        rcases hal : allowsB tm q a with _ | _
        · rw [hal] at j1
          refine call_pure (j1 _) ?_
          simp -implicitDefEqProofs only [byteT_len, nat_nn, Nat.zero_le, Nat.zero_add, List.length_map, List.nil_append, List.getElem?_cons_zero, List.getElem?_cons_succ, List.set_cons_zero, List.set_cons_succ, q_rows_r, Option.map_some, List.length_cons, List.length_nil, Nat.reduceLT, true_and, GateRule.vs, GateAct.vs, cond_t, cond_f, Bool.not_true, Bool.not_false, hun, f5, S0, S1, S2, S3, S4, S5, S6, S7, S8, S9, S10, S11, S12, S13, S14, S15, S16, S17, opv, opvs, eget, env0, setD, lenStr, lenSl, isNilP, isNilS, putAt, if_true, if_false, reduceCtorEq, Nat.reduceLeDiff, Nat.reduceEqDiff, Nat.reduceSub, Nat.reduceMul, Nat.reduceAdd]
          refine call_by (by rw [List.append_nil]; exact spec_DrawGateCovers a1 _) ?_
          rintro r s'' ⟨⟨tm3, others, q3, rfl, _, hol, hor, _⟩, rfl⟩
          have hoo := ok_rules hol hor
          simp -implicitDefEqProofs only [byteT_len, nat_nn, Nat.zero_le, Nat.zero_add, List.length_map, List.nil_append, List.getElem?_cons_zero, List.getElem?_cons_succ, List.set_cons_zero, List.set_cons_succ, q_rows_r, Option.map_some, List.length_cons, List.length_nil, Nat.reduceLT, true_and, GateRule.vs, GateAct.vs, cond_t, cond_f, Bool.not_true, Bool.not_false, hun, f5, S0, S1, S2, S3, S4, S5, S6, S7, S8, S9, S10, S11, S12, S13, S14, S15, S16, S17, opv, opvs, eget, env0, setD, lenStr, lenSl, isNilP, isNilS, putAt, if_true, if_false, reduceCtorEq, Nat.reduceLeDiff, Nat.reduceEqDiff, Nat.reduceSub, Nat.reduceMul, Nat.reduceAdd]
          have hga : ∀ y ∈ rules, ∀ σ : Store, _ := fun y hy => impl_GateCovers tm ht others hoo y (hu.2 y hy)
          have k3 := impl_GateCovers tm ht others hoo q hqo
          simp only [GateRule.vs] at hga k3
          have hR := hRR rules
          refine loop_p [18, 5, 6, 7, 8, 16] [5, 6, 7, 8, 16] (fun k : Nat => [(18, .t (.int .i64 (k : Nat)))]) (fun k => k ≤ (rules).length ∧ ((rules).take k).all (coversB tm others) = true) (fun k => (rules).length - k) 0 (by simp) ⟨Nat.zero_le _, rfl⟩ rfl ?_
          rintro k ⟨hk, hall⟩
          try simp -implicitDefEqProofs only [keep, List.length_map, S0, S1, S2, S3, S4, S5, S6, S7, S8, S9, S10, S11, S12, S13, S14, S15, S16, S17, opv, opvs, eget, env0, setD, lenStr, lenSl, isNilP, isNilS, putAt, if_true, if_false, reduceCtorEq, Nat.reduceLeDiff, Nat.reduceEqDiff, Nat.reduceSub, Nat.reduceMul, Nat.reduceAdd]
          refine cond_split (fun h1 => ?_) (fun h1 => ?_)
          · obtain ⟨x, hx, hlt⟩ := at_of h1
            clear h1 hh
            have hh : True := trivial
            simp -implicitDefEqProofs only [hx, nat_nn, Nat.zero_le, List.getElem?_map, Option.map_some, GateRule.ts, List.length_map, hR, GateRule.vs, i64_succ (show k < 4611686018427387904 by omega), S0, S1, S2, S3, S4, S5, S6, S7, S8, S9, S10, S11, S12, S13, S14, S15, S16, S17, opv, opvs, eget, env0, setD, lenStr, lenSl, isNilP, isNilS, putAt, if_true, if_false, reduceCtorEq, Nat.reduceLeDiff, Nat.reduceEqDiff, Nat.reduceSub, Nat.reduceMul, Nat.reduceAdd]
            repeat' (first
            | ((with_reducible refine cond_known (fun h => ?_) (fun h => ?_)) <;> (replace hh := And.intro h hh; clear h; simp -implicitDefEqProofs only [hh, cond_t, cond_f, hx, nat_nn, Nat.zero_le, List.getElem?_map, Option.map_some, GateRule.ts, List.length_map, hR, GateRule.vs, i64_succ (show k < 4611686018427387904 by omega), S0, S1, S2, S3, S4, S5, S6, S7, S8, S9, S10, S11, S12, S13, S14, S15, S16, S17, opv, opvs, eget, env0, setD, lenStr, lenSl, isNilP, isNilS, putAt, if_true, if_false, reduceCtorEq, Nat.reduceLeDiff, Nat.reduceEqDiff, Nat.reduceSub, Nat.reduceMul, Nat.reduceAdd]))
            | ((with_reducible refine call_pure (hga x (mem_at hx) _) ?_); simp -implicitDefEqProofs only [hh, cond_t, cond_f, hx, nat_nn, Nat.zero_le, List.getElem?_map, Option.map_some, GateRule.ts, List.length_map, hR, GateRule.vs, i64_succ (show k < 4611686018427387904 by omega), S0, S1, S2, S3, S4, S5, S6, S7, S8, S9, S10, S11, S12, S13, S14, S15, S16, S17, opv, opvs, eget, env0, setD, lenStr, lenSl, isNilP, isNilS, putAt, if_true, if_false, reduceCtorEq, Nat.reduceLeDiff, Nat.reduceEqDiff, Nat.reduceSub, Nat.reduceMul, Nat.reduceAdd])
            | (first | ((with_reducible refine fin0 ?_); refine tb ?_; (try simp only [Known] at hh); rfl) | ((with_reducible refine fin ?_ ?_); rotate_left; exact rfl; refine tb ?_; (try simp only [Known] at hh); rfl) | (refine lk_p0 (k + 1) (by simp) (by simp) (by omega) ⟨by omega, all_step hx hall ?_⟩ rfl; (try simp only [Known] at hh); grind) | (refine lk_p (k + 1) (by simp) (by simp) hσ rfl (by omega) ⟨by omega, all_step hx hall ?_⟩ rfl rfl; (try simp only [Known] at hh); grind) | (refine lk_pm (k + 1) (Nat.le_refl _) (by simp) hσ rfl rfl (by omega) ⟨by omega, all_step hx hall ?_⟩ (by simp [ltE, keep, eget, V.lt]) rfl; (try simp only [Known] at hh); grind)))
          replace hall := all_len hall ((end_of h1 hk).trans (by rfl))
          clear h1 hk
          try simp -implicitDefEqProofs only [S0, S1, S2, S3, S4, S5, S6, S7, S8, S9, S10, S11, S12, S13, S14, S15, S16, S17, opv, opvs, eget, env0, setD, lenStr, lenSl, isNilP, isNilS, putAt, if_true, if_false, reduceCtorEq, Nat.reduceLeDiff, Nat.reduceEqDiff, Nat.reduceSub, Nat.reduceMul, Nat.reduceAdd]
          rw [covers_trans f5 (fun y hy => List.all_eq_true.1 hall y hy)] at k3
          try simp -implicitDefEqProofs only [byteT_len, nat_nn, Nat.zero_le, Nat.zero_add, List.length_map, List.nil_append, List.getElem?_cons_zero, List.getElem?_cons_succ, List.set_cons_zero, List.set_cons_succ, q_rows_r, Option.map_some, List.length_cons, List.length_nil, Nat.reduceLT, true_and, GateRule.vs, GateAct.vs, cond_t, cond_f, Bool.not_true, Bool.not_false, hun, f5, S0, S1, S2, S3, S4, S5, S6, S7, S8, S9, S10, S11, S12, S13, S14, S15, S16, S17, opv, opvs, eget, env0, setD, lenStr, lenSl, isNilP, isNilS, putAt, if_true, if_false, reduceCtorEq, Nat.reduceLeDiff, Nat.reduceEqDiff, Nat.reduceSub, Nat.reduceMul, Nat.reduceAdd]
          refine call_pure (k3 _) ?_
          try simp -implicitDefEqProofs only [byteT_len, nat_nn, Nat.zero_le, Nat.zero_add, List.length_map, List.nil_append, List.getElem?_cons_zero, List.getElem?_cons_succ, List.set_cons_zero, List.set_cons_succ, q_rows_r, Option.map_some, List.length_cons, List.length_nil, Nat.reduceLT, true_and, GateRule.vs, GateAct.vs, cond_t, cond_f, Bool.not_true, Bool.not_false, hun, f5, S0, S1, S2, S3, S4, S5, S6, S7, S8, S9, S10, S11, S12, S13, S14, S15, S16, S17, opv, opvs, eget, env0, setD, lenStr, lenSl, isNilP, isNilS, putAt, if_true, if_false, reduceCtorEq, Nat.reduceLeDiff, Nat.reduceEqDiff, Nat.reduceSub, Nat.reduceMul, Nat.reduceAdd]
          first | exact fin rfl rfl | exact fin0 rfl
        · rw [hal] at j1
          rw [some_iff.2 (covers_sound f5 hal)] at j2
          refine call_pure (j1 _) ?_
          simp -implicitDefEqProofs only [byteT_len, nat_nn, Nat.zero_le, Nat.zero_add, List.length_map, List.nil_append, List.getElem?_cons_zero, List.getElem?_cons_succ, List.set_cons_zero, List.set_cons_succ, q_rows_r, Option.map_some, List.length_cons, List.length_nil, Nat.reduceLT, true_and, GateRule.vs, GateAct.vs, cond_t, cond_f, Bool.not_true, Bool.not_false, hun, f5, S0, S1, S2, S3, S4, S5, S6, S7, S8, S9, S10, S11, S12, S13, S14, S15, S16, S17, opv, opvs, eget, env0, setD, lenStr, lenSl, isNilP, isNilS, putAt, if_true, if_false, reduceCtorEq, Nat.reduceLeDiff, Nat.reduceEqDiff, Nat.reduceSub, Nat.reduceMul, Nat.reduceAdd]
          refine call_pure (j2 _) ?_
          simp -implicitDefEqProofs only [byteT_len, nat_nn, Nat.zero_le, Nat.zero_add, List.length_map, List.nil_append, List.getElem?_cons_zero, List.getElem?_cons_succ, List.set_cons_zero, List.set_cons_succ, q_rows_r, Option.map_some, List.length_cons, List.length_nil, Nat.reduceLT, true_and, GateRule.vs, GateAct.vs, cond_t, cond_f, Bool.not_true, Bool.not_false, hun, f5, S0, S1, S2, S3, S4, S5, S6, S7, S8, S9, S10, S11, S12, S13, S14, S15, S16, S17, opv, opvs, eget, env0, setD, lenStr, lenSl, isNilP, isNilS, putAt, if_true, if_false, reduceCtorEq, Nat.reduceLeDiff, Nat.reduceEqDiff, Nat.reduceSub, Nat.reduceMul, Nat.reduceAdd]
          refine call_by (by rw [List.append_nil]; exact spec_DrawGateCovers a1 _) ?_
          rintro r s'' ⟨⟨tm3, others, q3, rfl, _, hol, hor, _⟩, rfl⟩
          have hoo := ok_rules hol hor
          simp -implicitDefEqProofs only [byteT_len, nat_nn, Nat.zero_le, Nat.zero_add, List.length_map, List.nil_append, List.getElem?_cons_zero, List.getElem?_cons_succ, List.set_cons_zero, List.set_cons_succ, q_rows_r, Option.map_some, List.length_cons, List.length_nil, Nat.reduceLT, true_and, GateRule.vs, GateAct.vs, cond_t, cond_f, Bool.not_true, Bool.not_false, hun, f5, S0, S1, S2, S3, S4, S5, S6, S7, S8, S9, S10, S11, S12, S13, S14, S15, S16, S17, opv, opvs, eget, env0, setD, lenStr, lenSl, isNilP, isNilS, putAt, if_true, if_false, reduceCtorEq, Nat.reduceLeDiff, Nat.reduceEqDiff, Nat.reduceSub, Nat.reduceMul, Nat.reduceAdd]
          have hga : ∀ y ∈ rules, ∀ σ : Store, _ := fun y hy => impl_GateCovers tm ht others hoo y (hu.2 y hy)
          have k3 := impl_GateCovers tm ht others hoo q hqo
          simp only [GateRule.vs] at hga k3
          have hR := hRR rules
          refine loop_p [18, 5, 6, 7, 8, 16] [5, 6, 7, 8, 16] (fun k : Nat => [(18, .t (.int .i64 (k : Nat)))]) (fun k => k ≤ (rules).length ∧ ((rules).take k).all (coversB tm others) = true) (fun k => (rules).length - k) 0 (by simp) ⟨Nat.zero_le _, rfl⟩ rfl ?_
          rintro k ⟨hk, hall⟩
          try simp -implicitDefEqProofs only [keep, List.length_map, S0, S1, S2, S3, S4, S5, S6, S7, S8, S9, S10, S11, S12, S13, S14, S15, S16, S17, opv, opvs, eget, env0, setD, lenStr, lenSl, isNilP, isNilS, putAt, if_true, if_false, reduceCtorEq, Nat.reduceLeDiff, Nat.reduceEqDiff, Nat.reduceSub, Nat.reduceMul, Nat.reduceAdd]
          refine cond_split (fun h1 => ?_) (fun h1 => ?_)
          · obtain ⟨x, hx, hlt⟩ := at_of h1
            clear h1 hh
            have hh : True := trivial
            simp -implicitDefEqProofs only [hx, nat_nn, Nat.zero_le, List.getElem?_map, Option.map_some, GateRule.ts, List.length_map, hR, GateRule.vs, i64_succ (show k < 4611686018427387904 by omega), S0, S1, S2, S3, S4, S5, S6, S7, S8, S9, S10, S11, S12, S13, S14, S15, S16, S17, opv, opvs, eget, env0, setD, lenStr, lenSl, isNilP, isNilS, putAt, if_true, if_false, reduceCtorEq, Nat.reduceLeDiff, Nat.reduceEqDiff, Nat.reduceSub, Nat.reduceMul, Nat.reduceAdd]
            repeat' (first
            | ((with_reducible refine cond_known (fun h => ?_) (fun h => ?_)) <;> (replace hh := And.intro h hh; clear h; simp -implicitDefEqProofs only [hh, cond_t, cond_f, hx, nat_nn, Nat.zero_le, List.getElem?_map, Option.map_some, GateRule.ts, List.length_map, hR, GateRule.vs, i64_succ (show k < 4611686018427387904 by omega), S0, S1, S2, S3, S4, S5, S6, S7, S8, S9, S10, S11, S12, S13, S14, S15, S16, S17, opv, opvs, eget, env0, setD, lenStr, lenSl, isNilP, isNilS, putAt, if_true, if_false, reduceCtorEq, Nat.reduceLeDiff, Nat.reduceEqDiff, Nat.reduceSub, Nat.reduceMul, Nat.reduceAdd]))
            | ((with_reducible refine call_pure (hga x (mem_at hx) _) ?_); simp -implicitDefEqProofs only [hh, cond_t, cond_f, hx, nat_nn, Nat.zero_le, List.getElem?_map, Option.map_some, GateRule.ts, List.length_map, hR, GateRule.vs, i64_succ (show k < 4611686018427387904 by omega), S0, S1, S2, S3, S4, S5, S6, S7, S8, S9, S10, S11, S12, S13, S14, S15, S16, S17, opv, opvs, eget, env0, setD, lenStr, lenSl, isNilP, isNilS, putAt, if_true, if_false, reduceCtorEq, Nat.reduceLeDiff, Nat.reduceEqDiff, Nat.reduceSub, Nat.reduceMul, Nat.reduceAdd])
            | (first | ((with_reducible refine fin0 ?_); refine tb ?_; (try simp only [Known] at hh); rfl) | ((with_reducible refine fin ?_ ?_); rotate_left; exact rfl; refine tb ?_; (try simp only [Known] at hh); rfl) | (refine lk_p0 (k + 1) (by simp) (by simp) (by omega) ⟨by omega, all_step hx hall ?_⟩ rfl; (try simp only [Known] at hh); grind) | (refine lk_p (k + 1) (by simp) (by simp) hσ rfl (by omega) ⟨by omega, all_step hx hall ?_⟩ rfl rfl; (try simp only [Known] at hh); grind) | (refine lk_pm (k + 1) (Nat.le_refl _) (by simp) hσ rfl rfl (by omega) ⟨by omega, all_step hx hall ?_⟩ (by simp [ltE, keep, eget, V.lt]) rfl; (try simp only [Known] at hh); grind)))
          replace hall := all_len hall ((end_of h1 hk).trans (by rfl))
          clear h1 hk
          try simp -implicitDefEqProofs only [S0, S1, S2, S3, S4, S5, S6, S7, S8, S9, S10, S11, S12, S13, S14, S15, S16, S17, opv, opvs, eget, env0, setD, lenStr, lenSl, isNilP, isNilS, putAt, if_true, if_false, reduceCtorEq, Nat.reduceLeDiff, Nat.reduceEqDiff, Nat.reduceSub, Nat.reduceMul, Nat.reduceAdd]
          rw [covers_trans f5 (fun y hy => List.all_eq_true.1 hall y hy)] at k3
          try simp -implicitDefEqProofs only [byteT_len, nat_nn, Nat.zero_le, Nat.zero_add, List.length_map, List.nil_append, List.getElem?_cons_zero, List.getElem?_cons_succ, List.set_cons_zero, List.set_cons_succ, q_rows_r, Option.map_some, List.length_cons, List.length_nil, Nat.reduceLT, true_and, GateRule.vs, GateAct.vs, cond_t, cond_f, Bool.not_true, Bool.not_false, hun, f5, S0, S1, S2, S3, S4, S5, S6, S7, S8, S9, S10, S11, S12, S13, S14, S15, S16, S17, opv, opvs, eget, env0, setD, lenStr, lenSl, isNilP, isNilS, putAt, if_true, if_false, reduceCtorEq, Nat.reduceLeDiff, Nat.reduceEqDiff, Nat.reduceSub, Nat.reduceMul, Nat.reduceAdd]
          refine call_pure (k3 _) ?_
          try simp -implicitDefEqProofs only [byteT_len, nat_nn, Nat.zero_le, Nat.zero_add, List.length_map, List.nil_append, List.getElem?_cons_zero, List.getElem?_cons_succ, List.set_cons_zero, List.set_cons_succ, q_rows_r, Option.map_some, List.length_cons, List.length_nil, Nat.reduceLT, true_and, GateRule.vs, GateAct.vs, cond_t, cond_f, Bool.not_true, Bool.not_false, hun, f5, S0, S1, S2, S3, S4, S5, S6, S7, S8, S9, S10, S11, S12, S13, S14, S15, S16, S17, opv, opvs, eget, env0, setD, lenStr, lenSl, isNilP, isNilS, putAt, if_true, if_false, reduceCtorEq, Nat.reduceLeDiff, Nat.reduceEqDiff, Nat.reduceSub, Nat.reduceMul, Nat.reduceAdd]
          first | exact fin rfl rfl | exact fin0 rfl

  · have f1 := F1 hun
    have f2 := F2 hun
    have f3 := F3 hun
    have f5 := f1
    rw [F4 hun] at i6
    simp -implicitDefEqProofs only [byteT_len, nat_nn, Nat.zero_le, Nat.zero_add, List.length_map, List.nil_append, List.getElem?_cons_zero, List.getElem?_cons_succ, List.set_cons_zero, List.set_cons_succ, q_rows_r, Option.map_some, List.length_cons, List.length_nil, Nat.reduceLT, true_and, GateRule.vs, GateAct.vs, cond_t, cond_f, Bool.not_true, Bool.not_false, hun, f1, S0, S1, S2, S3, S4, S5, S6, S7, S8, S9, S10, S11, S12, S13, S14, S15, S16, S17, opv, opvs, eget, env0, setD, lenStr, lenSl, isNilP, isNilS, putAt, if_true, if_false, reduceCtorEq, Nat.reduceLeDiff, Nat.reduceEqDiff, Nat.reduceSub, Nat.reduceMul, Nat.reduceAdd]
    refine call_pure (i4 _) ?_
    simp -implicitDefEqProofs only [byteT_len, nat_nn, Nat.zero_le, Nat.zero_add, List.length_map, List.nil_append, List.getElem?_cons_zero, List.getElem?_cons_succ, List.set_cons_zero, List.set_cons_succ, q_rows_r, Option.map_some, List.length_cons, List.length_nil, Nat.reduceLT, true_and, GateRule.vs, GateAct.vs, cond_t, cond_f, Bool.not_true, Bool.not_false, f2, S0, S1, S2, S3, S4, S5, S6, S7, S8, S9, S10, S11, S12, S13, S14, S15, S16, S17, opv, opvs, eget, env0, setD, lenStr, lenSl, isNilP, isNilS, putAt, if_true, if_false, reduceCtorEq, Nat.reduceLeDiff, Nat.reduceEqDiff, Nat.reduceSub, Nat.reduceMul, Nat.reduceAdd]
    refine call_pure (i5 _) ?_
    simp -implicitDefEqProofs only [byteT_len, nat_nn, Nat.zero_le, Nat.zero_add, List.length_map, List.nil_append, List.getElem?_cons_zero, List.getElem?_cons_succ, List.set_cons_zero, List.set_cons_succ, q_rows_r, Option.map_some, List.length_cons, List.length_nil, Nat.reduceLT, true_and, GateRule.vs, GateAct.vs, cond_t, cond_f, Bool.not_true, Bool.not_false, f3, S0, S1, S2, S3, S4, S5, S6, S7, S8, S9, S10, S11, S12, S13, S14, S15, S16, S17, opv, opvs, eget, env0, setD, lenStr, lenSl, isNilP, isNilS, putAt, if_true, if_false, reduceCtorEq, Nat.reduceLeDiff, Nat.reduceEqDiff, Nat.reduceSub, Nat.reduceMul, Nat.reduceAdd]
    refine ⟨by simp only [maxBy]; omega, by omega, fun he => ?_, fun hne => ?_⟩
    · have hr0 : rules = [] := by simpa using he
      refine ⟨by simp [maxBy], fun h => h.elim, fun _ => ?_⟩
      refine call_bor i6 rfl ⟨_, _, rfl, stm _, _, _, rfl, sees_new1 (q := q) hr0 (by simp), _, _, rfl, sq _, rfl⟩ ?_
      simp -implicitDefEqProofs only [byteT_len, nat_nn, Nat.zero_le, Nat.zero_add, List.length_map, List.nil_append, List.getElem?_cons_zero, List.getElem?_cons_succ, List.set_cons_zero, List.set_cons_succ, q_rows_r, Option.map_some, List.length_cons, List.length_nil, Nat.reduceLT, true_and, GateRule.vs, GateAct.vs, cond_t, cond_f, Bool.not_true, Bool.not_false, hun, f5, beq_self_eq_true, tfB, ftB, S0, S1, S2, S3, S4, S5, S6, S7, S8, S9, S10, S11, S12, S13, S14, S15, S16, S17, opv, opvs, eget, env0, setD, lenStr, lenSl, isNilP, isNilS, putAt, if_true, if_false, reduceCtorEq, Nat.reduceLeDiff, Nat.reduceEqDiff, Nat.reduceSub, Nat.reduceMul, Nat.reduceAdd]
      refine call_by (by rw [List.append_nil]; exact spec_DrawGateAllows a1 _) ?_
      rintro r s' ⟨⟨tm2, q2, a, rfl, _, _, haS⟩, rfl⟩
      have haO := ok_act haS
      have j1 := impl_GateAllows tm ht q hqo a haO
      have j2 := laws_wgSome tm ht rules hu a haO
      simp only [GateRule.vs, GateAct.vs] at j1 j2
      simp -implicitDefEqProofs only [byteT_len, nat_nn, Nat.zero_le, Nat.zero_add, List.length_map, List.nil_append, List.getElem?_cons_zero, List.getElem?_cons_succ, List.set_cons_zero, List.set_cons_succ, q_rows_r, Option.map_some, List.length_cons, List.length_nil, Nat.reduceLT, true_and, GateRule.vs, GateAct.vs, cond_t, cond_f, Bool.not_true, Bool.not_false, hun, f5, S0, S1, S2, S3, S4, S5, S6, S7, S8, S9, S10, S11, S12, S13, S14, S15, S16, S17, opv, opvs, eget, env0, setD, lenStr, lenSl, isNilP, isNilS, putAt, if_true, if_false, reduceCtorEq, Nat.reduceLeDiff, Nat.reduceEqDiff, Nat.reduceSub, Nat.reduceMul, Nat.reduceAdd]
      refine call_by (by rw [List.append_nil]; exact spec_DrawGateCovers a1 _) ?_
      rintro r s'' ⟨⟨tm3, others, q3, rfl, _, hol, hor, _⟩, rfl⟩
      have hoo := ok_rules hol hor
      simp -implicitDefEqProofs only [byteT_len, nat_nn, Nat.zero_le, Nat.zero_add, List.length_map, List.nil_append, List.getElem?_cons_zero, List.getElem?_cons_succ, List.set_cons_zero, List.set_cons_succ, q_rows_r, Option.map_some, List.length_cons, List.length_nil, Nat.reduceLT, true_and, GateRule.vs, GateAct.vs, cond_t, cond_f, Bool.not_true, Bool.not_false, hun, f5, S0, S1, S2, S3, S4, S5, S6, S7, S8, S9, S10, S11, S12, S13, S14, S15, S16, S17, opv, opvs, eget, env0, setD, lenStr, lenSl, isNilP, isNilS, putAt, if_true, if_false, reduceCtorEq, Nat.reduceLeDiff, Nat.reduceEqDiff, Nat.reduceSub, Nat.reduceMul, Nat.reduceAdd]
      have hga : ∀ y ∈ rules, ∀ σ : Store, _ := fun y hy => impl_GateCovers tm ht others hoo y (hu.2 y hy)
      have k3 := impl_GateCovers tm ht others hoo q hqo
      simp only [GateRule.vs] at hga k3
      have hR := hRR rules
      refine loop_p [18, 5, 6, 7, 8, 16] [5, 6, 7, 8, 16] (fun k : Nat => [(18, .t (.int .i64 (k : Nat)))]) (fun k => k ≤ (rules).length ∧ ((rules).take k).all (coversB tm others) = true) (fun k => (rules).length - k) 0 (by simp) ⟨Nat.zero_le _, rfl⟩ rfl ?_
      rintro k ⟨hk, hall⟩
      try simp -implicitDefEqProofs only [keep, List.length_map, S0, S1, S2, S3, S4, S5, S6, S7, S8, S9, S10, S11, S12, S13, S14, S15, S16, S17, opv, opvs, eget, env0, setD, lenStr, lenSl, isNilP, isNilS, putAt, if_true, if_false, reduceCtorEq, Nat.reduceLeDiff, Nat.reduceEqDiff, Nat.reduceSub, Nat.reduceMul, Nat.reduceAdd]
      refine cond_split (fun h1 => ?_) (fun h1 => ?_)
      · obtain ⟨x, hx, hlt⟩ := at_of h1
        clear h1 hh
        have hh : True := trivial
        simp -implicitDefEqProofs only [hx, nat_nn, Nat.zero_le, List.getElem?_map, Option.map_some, GateRule.ts, List.length_map, hR, GateRule.vs, i64_succ (show k < 4611686018427387904 by omega), S0, S1, S2, S3, S4, S5, S6, S7, S8, S9, S10, S11, S12, S13, S14, S15, S16, S17, opv, opvs, eget, env0, setD, lenStr, lenSl, isNilP, isNilS, putAt, if_true, if_false, reduceCtorEq, Nat.reduceLeDiff, Nat.reduceEqDiff, Nat.reduceSub, Nat.reduceMul, Nat.reduceAdd]
        repeat' (first
        | ((with_reducible refine cond_known (fun h => ?_) (fun h => ?_)) <;> (replace hh := And.intro h hh; clear h; simp -implicitDefEqProofs only [hh, cond_t, cond_f, hx, nat_nn, Nat.zero_le, List.getElem?_map, Option.map_some, GateRule.ts, List.length_map, hR, GateRule.vs, i64_succ (show k < 4611686018427387904 by omega), S0, S1, S2, S3, S4, S5, S6, S7, S8, S9, S10, S11, S12, S13, S14, S15, S16, S17, opv, opvs, eget, env0, setD, lenStr, lenSl, isNilP, isNilS, putAt, if_true, if_false, reduceCtorEq, Nat.reduceLeDiff, Nat.reduceEqDiff, Nat.reduceSub, Nat.reduceMul, Nat.reduceAdd]))
        | ((with_reducible refine call_pure (hga x (mem_at hx) _) ?_); simp -implicitDefEqProofs only [hh, cond_t, cond_f, hx, nat_nn, Nat.zero_le, List.getElem?_map, Option.map_some, GateRule.ts, List.length_map, hR, GateRule.vs, i64_succ (show k < 4611686018427387904 by omega), S0, S1, S2, S3, S4, S5, S6, S7, S8, S9, S10, S11, S12, S13, S14, S15, S16, S17, opv, opvs, eget, env0, setD, lenStr, lenSl, isNilP, isNilS, putAt, if_true, if_false, reduceCtorEq, Nat.reduceLeDiff, Nat.reduceEqDiff, Nat.reduceSub, Nat.reduceMul, Nat.reduceAdd])
        | (first | ((with_reducible refine fin0 ?_); refine tb ?_; (try simp only [Known] at hh); rfl) | ((with_reducible refine fin ?_ ?_); rotate_left; exact rfl; refine tb ?_; (try simp only [Known] at hh); rfl) | (refine lk_p0 (k + 1) (by simp) (by simp) (by omega) ⟨by omega, all_step hx hall ?_⟩ rfl; (try simp only [Known] at hh); grind) | (refine lk_p (k + 1) (by simp) (by simp) hσ rfl (by omega) ⟨by omega, all_step hx hall ?_⟩ rfl rfl; (try simp only [Known] at hh); grind) | (refine lk_pm (k + 1) (Nat.le_refl _) (by simp) hσ rfl rfl (by omega) ⟨by omega, all_step hx hall ?_⟩ (by simp [ltE, keep, eget, V.lt]) rfl; (try simp only [Known] at hh); grind)))
      replace hall := all_len hall ((end_of h1 hk).trans (by rfl))
      clear h1 hk
      try simp -implicitDefEqProofs only [S0, S1, S2, S3, S4, S5, S6, S7, S8, S9, S10, S11, S12, S13, S14, S15, S16, S17, opv, opvs, eget, env0, setD, lenStr, lenSl, isNilP, isNilS, putAt, if_true, if_false, reduceCtorEq, Nat.reduceLeDiff, Nat.reduceEqDiff, Nat.reduceSub, Nat.reduceMul, Nat.reduceAdd]
      try simp -implicitDefEqProofs only [byteT_len, nat_nn, Nat.zero_le, Nat.zero_add, List.length_map, List.nil_append, List.getElem?_cons_zero, List.getElem?_cons_succ, List.set_cons_zero, List.set_cons_succ, q_rows_r, Option.map_some, List.length_cons, List.length_nil, Nat.reduceLT, true_and, GateRule.vs, GateAct.vs, cond_t, cond_f, Bool.not_true, Bool.not_false, hun, f5, S0, S1, S2, S3, S4, S5, S6, S7, S8, S9, S10, S11, S12, S13, S14, S15, S16, S17, opv, opvs, eget, env0, setD, lenStr, lenSl, isNilP, isNilS, putAt, if_true, if_false, reduceCtorEq, Nat.reduceLeDiff, Nat.reduceEqDiff, Nat.reduceSub, Nat.reduceMul, Nat.reduceAdd]
      first | exact fin rfl rfl | exact fin0 rfl
    · refine ⟨by simp only [maxBy]; omega, by omega, ?_⟩
      refine ⟨.inr ?_, ?_⟩
      · refine ⟨fun _ => ⟨74, _, rfl, rfl, ?_⟩, trivial⟩
        show evLoad (some 4) _ (.ptr s.length 0) _
        simp [evLoad, onBox, ldV, eqK]
      refine call_bor i6 rfl ⟨_, _, rfl, stm _, _, _, rfl, sees_newN (l := rules ++ [q]) (by simp [GateRule.ts]) (by simp), _, _, rfl, sq _, rfl⟩ ?_
      simp -implicitDefEqProofs only [byteT_len, nat_nn, Nat.zero_le, Nat.zero_add, List.length_map, List.nil_append, List.getElem?_cons_zero, List.getElem?_cons_succ, List.set_cons_zero, List.set_cons_succ, q_rows_r, Option.map_some, List.length_cons, List.length_nil, Nat.reduceLT, true_and, GateRule.vs, GateAct.vs, cond_t, cond_f, Bool.not_true, Bool.not_false, hun, f5, beq_self_eq_true, tfB, ftB, S0, S1, S2, S3, S4, S5, S6, S7, S8, S9, S10, S11, S12, S13, S14, S15, S16, S17, opv, opvs, eget, env0, setD, lenStr, lenSl, isNilP, isNilS, putAt, if_true, if_false, reduceCtorEq, Nat.reduceLeDiff, Nat.reduceEqDiff, Nat.reduceSub, Nat.reduceMul, Nat.reduceAdd]
      refine call_by (by rw [List.append_nil]; exact spec_DrawGateAllows a1 _) ?_
      rintro r s' ⟨⟨tm2, q2, a, rfl, _, _, haS⟩, rfl⟩
      have haO := ok_act haS
      have j1 := impl_GateAllows tm ht q hqo a haO
      have j2 := laws_wgSome tm ht rules hu a haO
      simp only [GateRule.vs, GateAct.vs] at j1 j2
      simp -implicitDefEqProofs only [byteT_len, nat_nn, Nat.zero_le, Nat.zero_add, List.length_map, List.nil_append, List.getElem?_cons_zero, List.getElem?_cons_succ, List.set_cons_zero, List.set_cons_succ, q_rows_r, Option.map_some, List.length_cons, List.length_nil, Nat.reduceLT, true_and, GateRule.vs, GateAct.vs, cond_t, cond_f, Bool.not_true, Bool.not_false, hun, f5, S0, S1, S2, S3, S4, S5, S6, S7, S8, S9, S10, S11, S12, S13, S14, S15, S16, S17, opv, opvs, eget, env0, setD, lenStr, lenSl, isNilP, isNilS, putAt, if_true, if_false, reduceCtorEq, Nat.reduceLeDiff, Nat.reduceEqDiff, Nat.reduceSub, Nat.reduceMul, Nat.reduceAdd]
      refine call_by (by rw [List.append_nil]; exact spec_DrawGateCovers a1 _) ?_
      rintro r s'' ⟨⟨tm3, others, q3, rfl, _, hol, hor, _⟩, rfl⟩
      have hoo := ok_rules hol hor
      simp -implicitDefEqProofs only [byteT_len, nat_nn, Nat.zero_le, Nat.zero_add, List.length_map, List.nil_append, List.getElem?_cons_zero, List.getElem?_cons_succ, List.set_cons_zero, List.set_cons_succ, q_rows_r, Option.map_some, List.length_cons, List.length_nil, Nat.reduceLT, true_and, GateRule.vs, GateAct.vs, cond_t, cond_f, Bool.not_true, Bool.not_false, hun, f5, S0, S1, S2, S3, S4, S5, S6, S7, S8, S9, S10, S11, S12, S13, S14, S15, S16, S17, opv, opvs, eget, env0, setD, lenStr, lenSl, isNilP, isNilS, putAt, if_true, if_false, reduceCtorEq, Nat.reduceLeDiff, Nat.reduceEqDiff, Nat.reduceSub, Nat.reduceMul, Nat.reduceAdd]
      have hga : ∀ y ∈ rules, ∀ σ : Store, _ := fun y hy => impl_GateCovers tm ht others hoo y (hu.2 y hy)
      have k3 := impl_GateCovers tm ht others hoo q hqo
      simp only [GateRule.vs] at hga k3
      have hR := hRR rules
      refine loop_p [18, 5, 6, 7, 8, 16] [5, 6, 7, 8, 16] (fun k : Nat => [(18, .t (.int .i64 (k : Nat)))]) (fun k => k ≤ (rules).length ∧ ((rules).take k).all (coversB tm others) = true) (fun k => (rules).length - k) 0 (by simp) ⟨Nat.zero_le _, rfl⟩ rfl ?_
      rintro k ⟨hk, hall⟩
      try simp -implicitDefEqProofs only [keep, List.length_map, S0, S1, S2, S3, S4, S5, S6, S7, S8, S9, S10, S11, S12, S13, S14, S15, S16, S17, opv, opvs, eget, env0, setD, lenStr, lenSl, isNilP, isNilS, putAt, if_true, if_false, reduceCtorEq, Nat.reduceLeDiff, Nat.reduceEqDiff, Nat.reduceSub, Nat.reduceMul, Nat.reduceAdd]
      refine cond_split (fun h1 => ?_) (fun h1 => ?_)
      · obtain ⟨x, hx, hlt⟩ := at_of h1
        clear h1 hh
        have hh : True := trivial
        simp -implicitDefEqProofs only [hx, nat_nn, Nat.zero_le, List.getElem?_map, Option.map_some, GateRule.ts, List.length_map, hR, GateRule.vs, i64_succ (show k < 4611686018427387904 by omega), S0, S1, S2, S3, S4, S5, S6, S7, S8, S9, S10, S11, S12, S13, S14, S15, S16, S17, opv, opvs, eget, env0, setD, lenStr, lenSl, isNilP, isNilS, putAt, if_true, if_false, reduceCtorEq, Nat.reduceLeDiff, Nat.reduceEqDiff, Nat.reduceSub, Nat.reduceMul, Nat.reduceAdd]
        repeat' (first
        | ((with_reducible refine cond_known (fun h => ?_) (fun h => ?_)) <;> (replace hh := And.intro h hh; clear h; simp -implicitDefEqProofs only [hh, cond_t, cond_f, hx, nat_nn, Nat.zero_le, List.getElem?_map, Option.map_some, GateRule.ts, List.length_map, hR, GateRule.vs, i64_succ (show k < 4611686018427387904 by omega), S0, S1, S2, S3, S4, S5, S6, S7, S8, S9, S10, S11, S12, S13, S14, S15, S16, S17, opv, opvs, eget, env0, setD, lenStr, lenSl, isNilP, isNilS, putAt, if_true, if_false, reduceCtorEq, Nat.reduceLeDiff, Nat.reduceEqDiff, Nat.reduceSub, Nat.reduceMul, Nat.reduceAdd]))
        | ((with_reducible refine call_pure (hga x (mem_at hx) _) ?_); simp -implicitDefEqProofs only [hh, cond_t, cond_f, hx, nat_nn, Nat.zero_le, List.getElem?_map, Option.map_some, GateRule.ts, List.length_map, hR, GateRule.vs, i64_succ (show k < 4611686018427387904 by omega), S0, S1, S2, S3, S4, S5, S6, S7, S8, S9, S10, S11, S12, S13, S14, S15, S16, S17, opv, opvs, eget, env0, setD, lenStr, lenSl, isNilP, isNilS, putAt, if_true, if_false, reduceCtorEq, Nat.reduceLeDiff, Nat.reduceEqDiff, Nat.reduceSub, Nat.reduceMul, Nat.reduceAdd])
        | (first | ((with_reducible refine fin0 ?_); refine tb ?_; (try simp only [Known] at hh); rfl) | ((with_reducible refine fin ?_ ?_); rotate_left; exact rfl; refine tb ?_; (try simp only [Known] at hh); rfl) | (refine lk_p0 (k + 1) (by simp) (by simp) (by omega) ⟨by omega, all_step hx hall ?_⟩ rfl; (try simp only [Known] at hh); grind) | (refine lk_p (k + 1) (by simp) (by simp) hσ rfl (by omega) ⟨by omega, all_step hx hall ?_⟩ rfl rfl; (try simp only [Known] at hh); grind) | (refine lk_pm (k + 1) (Nat.le_refl _) (by simp) hσ rfl rfl (by omega) ⟨by omega, all_step hx hall ?_⟩ (by simp [ltE, keep, eget, V.lt]) rfl; (try simp only [Known] at hh); grind)))
      replace hall := all_len hall ((end_of h1 hk).trans (by rfl))
      clear h1 hk
      try simp -implicitDefEqProofs only [S0, S1, S2, S3, S4, S5, S6, S7, S8, S9, S10, S11, S12, S13, S14, S15, S16, S17, opv, opvs, eget, env0, setD, lenStr, lenSl, isNilP, isNilS, putAt, if_true, if_false, reduceCtorEq, Nat.reduceLeDiff, Nat.reduceEqDiff, Nat.reduceSub, Nat.reduceMul, Nat.reduceAdd]
      try simp -implicitDefEqProofs only [byteT_len, nat_nn, Nat.zero_le, Nat.zero_add, List.length_map, List.nil_append, List.getElem?_cons_zero, List.getElem?_cons_succ, List.set_cons_zero, List.set_cons_succ, q_rows_r, Option.map_some, List.length_cons, List.length_nil, Nat.reduceLT, true_and, GateRule.vs, GateAct.vs, cond_t, cond_f, Bool.not_true, Bool.not_false, hun, f5, S0, S1, S2, S3, S4, S5, S6, S7, S8, S9, S10, S11, S12, S13, S14, S15, S16, S17, opv, opvs, eget, env0, setD, lenStr, lenSl, isNilP, isNilS, putAt, if_true, if_false, reduceCtorEq, Nat.reduceLeDiff, Nat.reduceEqDiff, Nat.reduceSub, Nat.reduceMul, Nat.reduceAdd]
      first | exact fin rfl rfl | exact fin0 rfl


end Go.Proofs.YtcjchimenfadkaaDoor.W
