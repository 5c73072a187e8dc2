/- Rules that cover a rule. Conditions: none. -/
import Derived.Test.YtcjchimenfadkaaDoorRulesOkG
import Derived.Test.YtcjchimenfadkaaDoorUnder2
set_option linter.unusedSimpArgs false
set_option linter.unusedVariables false
set_option linter.defProp false
open Go Go.Ab
set_option maxHeartbeats 2000000
namespace Go.Proofs.YtcjchimenfadkaaDoor.W
def noV (v x : Int) : Bool := !(x == v)
def hasV (l : List Int) (v : Int) : Bool := !(l.all (noV v))
def stepV (s : BitVec 16) (v : Int) : BitVec 16 := if 0 ≤ v ∧ v < 16 then s ||| (1#16 <<< v.toNat) else s
def setV (l : List Int) : BitVec 16 := l.foldl stepV 0#16
def hasS (s : BitVec 16) (v : Int) : Bool := decide (v ≥ 0) && decide (v < 16) && s.getLsbD v.toNat
theorem set_bit (v : Int) (h0 : 0 ≤ v) (h1 : v < 16) : ∀ (l : List Int) (s : BitVec 16), (l.foldl stepV s).getLsbD v.toNat = (s.getLsbD v.toNat || hasV l v)
  | [], s => by simp [hasV]
  | x :: l, s => by
    rw [List.foldl_cons, set_bit v h0 h1 l]
    have hh : hasV (x :: l) v = (x == v || hasV l v) := by simp [hasV, noV, List.all_cons, Bool.not_and]
    rw [hh, ← Bool.or_assoc]
    congr 1
    unfold stepV
    split
    · rename_i hx
      rw [BitVec.getLsbD_or, BitVec.getLsbD_shiftLeft]
      congr 1
      have hv16 : v.toNat < 16 := by omega
      by_cases he : x = v
      · subst he; simp [hv16]
      · have hne : ¬ x.toNat = v.toNat := by omega
        have hb : (x == v) = false := by simp [he]
        rw [hb]
        by_cases hlt : v.toNat < x.toNat
        · simp [hlt]
        · have : v.toNat - x.toNat ≠ 0 := by omega
          simp [BitVec.getLsbD_one, this]
    · rename_i hx
      have : (x == v) = false := by
        simp only [beq_eq_false_iff_ne]
        intro he; subst he; exact hx ⟨h0, h1⟩
      rw [this, Bool.or_false]
theorem has_set (l : List Int) (v : Int) (h0 : 0 ≤ v) (h1 : v < 16) : hasS (setV l) v = hasV l v := by
  have := set_bit v h0 h1 l 0#16
  have d1 : decide (v ≥ 0) = true := by simp; omega
  have d2 : decide (v < 16) = true := by simp; omega
  rw [hasS, setV, this, d1, d2]; simp
theorem wrap16 (n : Nat) (h : n < 65536) : IntKind.u16.wrap (n : Int) = (n : Int) := by
  have h2 : IntKind.u16.bits = 16 := rfl
  have h3 : IntKind.u16.signed = false := rfl
  simp only [IntKind.wrap, h2, h3, Bool.false_and]
  have e : (n : Int) % (2 ^ 16 : Int) = n := Int.emod_eq_of_lt (by omega) (by
    have : ((2 : Int) ^ 16) = 65536 := by decide
    omega)
  simpa using e
theorem wrap64u (v : Int) (h0 : 0 ≤ v) (h1 : v < 16) : IntKind.u64.wrap v = v := by
  have h2 : IntKind.u64.bits = 64 := rfl
  have h3 : IntKind.u64.signed = false := rfl
  simp only [IntKind.wrap, h2, h3, Bool.false_and]
  have e : v % (2 ^ 64 : Int) = v := Int.emod_eq_of_lt h0 (by
    have : ((2 : Int) ^ 64) = 18446744073709551616 := by decide
    omega)
  simpa using e
theorem bv_or (s : BitVec 16) (v : Int) (h0 : 0 ≤ v) (h1 : v < 16) : bits .or .u16 (s.toNat : Int) (IntKind.u16.wrap (1 * 2 ^ (min (IntKind.u64.wrap v).toNat IntKind.u16.bits))) = ((stepV s v).toNat : Int) := by
  obtain ⟨n, rfl⟩ : ∃ n : Nat, v = n := ⟨v.toNat, by omega⟩
  have hn : n < 16 := by omega
  have hb : IntKind.u16.bits = 16 := rfl
  have hp : 2 ^ n < 65536 := by
    have := Nat.pow_lt_pow_right (a := 2) (by omega) hn
    simpa using this
  rw [wrap64u _ h0 h1, stepV, if_pos ⟨h0, h1⟩, Int.toNat_natCast, Int.one_mul, hb, Nat.min_eq_left (by omega)]
  have e2 : ((2 : Int) ^ n) = ((2 ^ n : Nat) : Int) := by simp
  rw [e2, wrap16 _ hp]
  simp only [bits]
  have e3 : BitVec.ofInt 16 (s.toNat : Int) = s := by simp
  have e4 : BitVec.ofInt 16 ((2 ^ n : Nat) : Int) = 1#16 <<< n := by
    rw [BitVec.ofInt_natCast]
    apply BitVec.eq_of_toNat_eq
    simp [BitVec.toNat_shiftLeft, Nat.shiftLeft_eq]
  show IntKind.u16.wrap _ = _
  have e5 : (BitVec.ofInt IntKind.u16.bits (s.toNat : Int) ||| BitVec.ofInt IntKind.u16.bits ((2 ^ n : Nat) : Int)).toNat = (s ||| 1#16 <<< n).toNat := by
    show (BitVec.ofInt 16 (s.toNat : Int) ||| BitVec.ofInt 16 ((2 ^ n : Nat) : Int)).toNat = _
    rw [e3, e4]
  rw [e5]
  exact wrap16 _ (BitVec.isLt _)
theorem bv_and (s : BitVec 16) (v : Int) (h0 : 0 ≤ v) (h1 : v < 16) : (bits .and .u16 ((s.toNat : Int).fdiv (2 ^ (min (IntKind.u64.wrap v).toNat IntKind.u16.bits))) 1 == 1) = s.getLsbD v.toNat := by
  obtain ⟨n, rfl⟩ : ∃ n : Nat, v = n := ⟨v.toNat, by omega⟩
  have hn : n < 16 := by omega
  have hb : IntKind.u16.bits = 16 := rfl
  rw [wrap64u _ h0 h1, Int.toNat_natCast, hb, Nat.min_eq_left (by omega)]
  have e1 : ((s.toNat : Int).fdiv (2 ^ n)) = ((s >>> n).toNat : Int) := by
    rw [Int.fdiv_eq_ediv_of_nonneg _ (Int.pow_nonneg (by decide))]
    simp [BitVec.toNat_ushiftRight, Nat.shiftRight_eq_div_pow]
  rw [e1]
  simp only [bits]
  have e5 : (BitVec.ofInt IntKind.u16.bits ((s >>> n).toNat : Int) &&& BitVec.ofInt IntKind.u16.bits 1).toNat = ((s >>> n) &&& 1#16).toNat := by
    show (BitVec.ofInt 16 ((s >>> n).toNat : Int) &&& BitVec.ofInt 16 1).toNat = _
    have e3 : BitVec.ofInt 16 ((s >>> n).toNat : Int) = s >>> n := by
      rw [BitVec.ofInt_natCast, BitVec.ofNat_toNat, BitVec.setWidth_eq]
    rw [e3]; rfl
  rw [e5, wrap16 _ (BitVec.isLt _)]
  have e6 : ((s >>> n) &&& 1#16) = if s.getLsbD n = true then 1#16 else 0#16 := by
    apply BitVec.eq_of_getLsbD_eq
    intro i hi
    rw [BitVec.getLsbD_and, BitVec.getLsbD_ushiftRight]
    by_cases hz : i = 0
    · subst hz
      cases s.getLsbD n <;> simp_all
    · split <;> simp [BitVec.getLsbD_one, hz]
  rw [e6]
  cases s.getLsbD n <;> simp
theorem wrap64p (v : Int) (h0 : 0 ≤ v) (h1 : v < 16) : (0 : Int) ≤ IntKind.u64.wrap v := by rw [wrap64u v h0 h1]; exact h0
def widerP (tm : List GateTeam) (r : GateRule) (v : Int) (q : GateRule) : Bool := hasV q.Verbs v && (q.Kind == [] || q.Kind == r.Kind) && (q.Team == [] || (!(r.Team == []) && under tm q.Team 4 r.Team)) && begs r.Prefix q.Prefix
def noW (tm : List GateTeam) (r : GateRule) (v : Int) (q : GateRule) : Bool := !widerP tm r v q
def lackOf (tm : List GateTeam) (rules : List GateRule) (r : GateRule) : List Int → Int
  | [] => 0
  | v :: l => if (rules.all (noW tm r v)) = true then v else lackOf tm rules r l
def allRules (tm : List GateTeam) (rules : List GateRule) (r : GateRule) : Bool := teamsOk tm && ruleOk r && rules.all ruleOk
def coversB (tm : List GateTeam) (rules : List GateRule) (r : GateRule) : Bool := allRules tm rules r && (lackOf tm rules r r.Verbs == 0)

def c_spec_l4Verb : C := (.seq (.ops [⟨(some 2), none, (.box (.t 0))⟩, ⟨(some 4), none, (.mv (.c (.t (.bool false))))⟩]) (.seq (.seq (.ops [⟨(some 5), none, (.mv (.c (.t (.int .i64 0))))⟩]) (.block 0 (.loop (.seq (.seq (.ops [⟨(some 6), none, (.mv (.t 5))⟩, ⟨(some 7), none, (.fieldAddr 0 (.t 2))⟩, ⟨(some 8), none, (.load none (.t 7))⟩, ⟨(some 9), none, (.len false (.t 8))⟩, ⟨(some 10), none, (.bin .lss (.t 6) (.t 9))⟩]) (.cond (.t 10) .skip (.exit 0))) (.seq (.block 1 (.seq (.ops [⟨(some 13), none, (.fieldAddr 0 (.t 2))⟩, ⟨(some 14), none, (.load none (.t 13))⟩, ⟨(some 15), none, (.mv (.t 5))⟩, ⟨(some 16), none, (.indexAddr 1 (.t 14) (.t 15))⟩, ⟨(some 17), none, (.load none (.t 16))⟩, ⟨(some 18), none, (.mv (.t 1))⟩, ⟨(some 19), none, (.bin .eql (.t 17) (.t 18))⟩]) (.cond (.t 19) (.seq (.ops [⟨(some 4), none, (.mv (.c (.t (.bool true))))⟩]) .ret) .skip))) (.ops [⟨(some 11), none, (.mv (.t 5))⟩, ⟨(some 12), none, (.bin .add (.t 11) (.c (.t (.int .i64 1))))⟩, ⟨(some 5), none, (.mv (.t 12))⟩])))))) (.seq (.ops [⟨(some 4), none, (.mv (.c (.t (.bool false))))⟩]) .ret)))
theorem k_spec_l4Verb : comp Tryd.prog 20 (Tryd.f72.body.getD .skip) = some c_spec_l4Verb := by kernel_rfl

theorem spec_l4Verb (r : GateRule) (hr : r.Ok) (v : Int)  (σ : Store) : ACalls Tryd.prog 72 [.agg (r.vs), .t (.int .i64 (v))] σ fun rr σ' => rr = .t (.bool (hasV r.Verbs v)) ∧ σ' = σ := by
  refine acalls_of Tryd.func72 (by decide +kernel) (code := Tryd.f72.body.getD .skip) (n := 20) (c := c_spec_l4Verb) (rs := [(.tmp 4)]) rfl rfl k_spec_l4Verb (by kernel_rfl) (by simp) (fun hσ => ?_)
  have hh : True := trivial
  have fin : ∀ {u : V} {τ : Store}, u = .t (.bool (hasV r.Verbs v)) → u.lt σ.length = true → retV σ.length (fun rr σ' => rr = .t (.bool (hasV r.Verbs v)) ∧ σ' = σ) (σ ++ τ) (some [u]) := fun h h2 => ret_same rfl hσ h2 ⟨h, rfl⟩
  have fin0 : ∀ {u : V}, u = .t (.bool (hasV r.Verbs v)) → retV σ.length (fun rr σ' => rr = .t (.bool (hasV r.Verbs v)) ∧ σ' = σ) σ (some [u]) := fun h => ret_same0 rfl ⟨h, rfl⟩
  have y1 := hr.Verbs.1
  simp -implicitDefEqProofs only [c_spec_l4Verb, GateRule.vs, List.length_map, tInt, S0, S1, S2, S3, S4, S5, S6, S7, S8, S9, S10, S11, S12, S13, S14, S15, S16, S17, opv, opvs, eget, env0, setD, lenStr, lenSl, isNilP, isNilS, putAt, if_true, if_false, reduceCtorEq, Nat.reduceLeDiff, Nat.reduceEqDiff, Nat.reduceSub, Nat.reduceMul, Nat.reduceAdd]
  refine loop_p [5, 1, 2] [1, 2] (fun k : Nat => [(5, .t (.int .i64 (k : Nat)))]) (fun k => k ≤ (r.Verbs).length ∧ ((r.Verbs).take k).all (noV v) = true) (fun k => (r.Verbs).length - k) 0 (by simp) ⟨Nat.zero_le _, rfl⟩ rfl ?_
  rintro k ⟨hk, hall⟩
  simp -implicitDefEqProofs only [keep, List.length_map, S0, S1, S2, S3, S4, S5, S6, S7, S8, S9, S10, S11, S12, S13, S14, S15, S16, S17, opv, opvs, eget, env0, setD, lenStr, lenSl, isNilP, isNilS, putAt, if_true, if_false, reduceCtorEq, Nat.reduceLeDiff, Nat.reduceEqDiff, Nat.reduceSub, Nat.reduceMul, Nat.reduceAdd]
  refine cond_split (fun h1 => ?_) (fun h1 => ?_)
  · obtain ⟨x, hx, hlt⟩ := at_of h1
    clear h1 hh
    have hh : True := trivial
    simp -implicitDefEqProofs only [hx, nat_nn, Nat.zero_le, List.getElem?_map, Option.map_some, tInt, List.length_map, i64_succ (show k < 4611686018427387904 by omega), S0, S1, S2, S3, S4, S5, S6, S7, S8, S9, S10, S11, S12, S13, S14, S15, S16, S17, opv, opvs, eget, env0, setD, lenStr, lenSl, isNilP, isNilS, putAt, if_true, if_false, reduceCtorEq, Nat.reduceLeDiff, Nat.reduceEqDiff, Nat.reduceSub, Nat.reduceMul, Nat.reduceAdd]
    repeat' (first
    | ((with_reducible refine cond_known (fun h => ?_) (fun h => ?_)) <;> (replace hh := And.intro h hh; clear h; simp -implicitDefEqProofs only [hh, cond_t, cond_f, hx, nat_nn, Nat.zero_le, List.getElem?_map, Option.map_some, tInt, List.length_map, i64_succ (show k < 4611686018427387904 by omega), S0, S1, S2, S3, S4, S5, S6, S7, S8, S9, S10, S11, S12, S13, S14, S15, S16, S17, opv, opvs, eget, env0, setD, lenStr, lenSl, isNilP, isNilS, putAt, if_true, if_false, reduceCtorEq, Nat.reduceLeDiff, Nat.reduceEqDiff, Nat.reduceSub, Nat.reduceMul, Nat.reduceAdd]))
    | (first | ((with_reducible refine fin0 ?_); refine tb ?_; (try simp only [Known] at hh); have hno := all_not (l := (r.Verbs)) (p := (noV v)) hx; rw [hasV, hno (by grind [noV])]; rfl) | ((with_reducible refine fin ?_ ?_); rotate_left; exact rfl; refine tb ?_; (try simp only [Known] at hh); have hno := all_not (l := (r.Verbs)) (p := (noV v)) hx; rw [hasV, hno (by grind [noV])]; rfl) | (refine lk_p0 (k + 1) (by simp) (by simp) (by omega) ⟨by omega, all_step hx hall ?_⟩ rfl; (try simp only [Known] at hh); grind [noV]) | (refine lk_p (k + 1) (by simp) (by simp) hσ rfl (by omega) ⟨by omega, all_step hx hall ?_⟩ rfl rfl; (try simp only [Known] at hh); grind [noV]) | (refine lk_pm (k + 1) (Nat.le_refl _) (by simp) hσ rfl rfl (by omega) ⟨by omega, all_step hx hall ?_⟩ (by simp [ltE, keep, eget, V.lt]) rfl; (try simp only [Known] at hh); grind [noV])))
  replace hall := all_len hall ((end_of h1 hk).trans (by rfl))
  clear h1 hk
  simp -implicitDefEqProofs only [S0, S1, S2, S3, S4, S5, S6, S7, S8, S9, S10, S11, S12, S13, S14, S15, S16, S17, opv, opvs, eget, env0, setD, lenStr, lenSl, isNilP, isNilS, putAt, if_true, if_false, reduceCtorEq, Nat.reduceLeDiff, Nat.reduceEqDiff, Nat.reduceSub, Nat.reduceMul, Nat.reduceAdd]
  (first | ((with_reducible refine fin0 ?_); refine tb ?_; (try simp only [Known] at hh); rw [hasV, hall]; rfl) | ((with_reducible refine fin ?_ ?_); rotate_left; exact rfl; refine tb ?_; (try simp only [Known] at hh); rw [hasV, hall]; rfl))
def c_impl_setOf : C := (.seq (.ops [⟨(some 2), none, (.mv (.c (.t (.int .u16 0))))⟩]) (.seq (.ops [⟨(some 3), none, (.mv (.c (.t (.int .u16 0))))⟩]) (.seq (.seq (.ops [⟨(some 6), none, (.mv (.t 0))⟩, ⟨(some 7), none, (.len false (.t 6))⟩, ⟨(some 8), none, (.mv (.c (.t (.int .i64 0))))⟩]) (.block 0 (.loop (.seq (.ops [⟨(some 9), none, (.bin .lss (.t 8) (.t 7))⟩]) (.seq (.cond (.t 9) .skip (.exit 0)) (.seq (.block 1 (.seq (.ops [⟨(some 10), none, (.indexAddr 1 (.t 6) (.t 8))⟩, ⟨(some 11), none, (.load none (.t 10))⟩, ⟨(some 5), none, (.mv (.t 11))⟩]) (.seq (.ops [⟨(some 12), none, (.mv (.t 5))⟩, ⟨(some 13), none, (.bin .geq (.t 12) (.c (.t (.int .i64 0))))⟩, ⟨(some 14), none, (.mv (.t 13))⟩, ⟨(some 15), (some ⟨14, true⟩), (.mv (.t 5))⟩, ⟨(some 16), (some ⟨14, true⟩), (.bin .lss (.t 15) (.c (.t (.int .i64 16))))⟩, ⟨(some 17), none, (.pick (.t 14) (.t 16) (.c (.t (.bool false))))⟩]) (.cond (.t 17) (.ops [⟨(some 18), none, (.mv (.t 3))⟩, ⟨(some 19), none, (.mv (.t 5))⟩, ⟨(some 20), none, (.convInt .u64 (.t 19))⟩, ⟨(some 21), none, (.bin .shl (.c (.t (.int .u16 1))) (.t 20))⟩, ⟨(some 22), none, (.bin .or (.t 18) (.t 21))⟩, ⟨(some 3), none, (.mv (.t 22))⟩]) .skip)))) (.ops [⟨(some 23), none, (.bin .add (.t 8) (.c (.t (.int .i64 1))))⟩, ⟨(some 8), none, (.mv (.t 23))⟩]))))))) (.seq (.ops [⟨(some 24), none, (.mv (.t 3))⟩, ⟨(some 2), none, (.mv (.t 24))⟩]) .ret))))
theorem k_impl_setOf : comp Tryd.prog 25 (Tryd.f100.body.getD .skip) = some c_impl_setOf := by kernel_rfl

theorem impl_setOf (l : List Int) (hl : l.length ≤ 1048576)  (σ : Store) : ACalls Tryd.prog 100 [.t (tInts l)] σ fun rr σ' => rr = .t (.int .u16 ((setV l).toNat : Int)) ∧ σ' = σ := by
  refine acalls_of Tryd.func100 (by decide +kernel) (code := Tryd.f100.body.getD .skip) (n := 25) (c := c_impl_setOf) (rs := [(.tmp 2)]) rfl rfl k_impl_setOf (by kernel_rfl) (by simp) (fun hσ => ?_)
  have hh : True := trivial
  have fin : ∀ {u : V} {τ : Store}, u = .t (.int .u16 ((setV l).toNat : Int)) → u.lt σ.length = true → retV σ.length (fun rr σ' => rr = .t (.int .u16 ((setV l).toNat : Int)) ∧ σ' = σ) (σ ++ τ) (some [u]) := fun h h2 => ret_same rfl hσ h2 ⟨h, rfl⟩
  have fin0 : ∀ {u : V}, u = .t (.int .u16 ((setV l).toNat : Int)) → retV σ.length (fun rr σ' => rr = .t (.int .u16 ((setV l).toNat : Int)) ∧ σ' = σ) σ (some [u]) := fun h => ret_same0 rfl ⟨h, rfl⟩
  simp -implicitDefEqProofs only [c_impl_setOf, List.length_map, tInts, S0, S1, S2, S3, S4, S5, S6, S7, S8, S9, S10, S11, S12, S13, S14, S15, S16, S17, opv, opvs, eget, env0, setD, lenStr, lenSl, isNilP, isNilS, putAt, if_true, if_false, reduceCtorEq, Nat.reduceLeDiff, Nat.reduceEqDiff, Nat.reduceSub, Nat.reduceMul, Nat.reduceAdd]
  refine loop_p [3, 8, 6, 7] [6, 7] (fun k : Nat => [(3, .t (.int .u16 (((l.take k).foldl stepV 0#16).toNat : Int))), (8, .t (.int .i64 (k : Nat)))]) (fun k => k ≤ l.length) (fun k => l.length - k) 0 (by simp) (Nat.zero_le _) rfl ?_
  rintro k hk
  simp -implicitDefEqProofs only [keep, List.length_map, S0, S1, S2, S3, S4, S5, S6, S7, S8, S9, S10, S11, S12, S13, S14, S15, S16, S17, opv, opvs, eget, env0, setD, lenStr, lenSl, isNilP, isNilS, putAt, if_true, if_false, reduceCtorEq, Nat.reduceLeDiff, Nat.reduceEqDiff, Nat.reduceSub, Nat.reduceMul, Nat.reduceAdd]
  refine cond_split (fun h1 => ?_) (fun h1 => ?_)
  · obtain ⟨x, hx, hlt⟩ := at_of h1
    have more := i64_succ (show k < 4611686018427387904 by omega)
    have hst : (l.take (k + 1)).foldl stepV 0#16 = stepV ((l.take k).foldl stepV 0#16) x := by rw [take_of hx, List.foldl_append]; rfl
    simp -implicitDefEqProofs only [hx, nat_nn, Nat.zero_le, List.getElem?_map, Option.map_some, List.length_map, tInt, more, S0, S1, S2, S3, S4, S5, S6, S7, S8, S9, S10, S11, S12, S13, S14, S15, S16, S17, opv, opvs, eget, env0, setD, lenStr, lenSl, isNilP, isNilS, putAt, if_true, if_false, reduceCtorEq, Nat.reduceLeDiff, Nat.reduceEqDiff, Nat.reduceSub, Nat.reduceMul, Nat.reduceAdd]
    by_cases hr : 0 ≤ x ∧ x < 16
    · have d1 : decide (x ≥ 0) = true := by simp; omega
      have d2 : decide (x < 16) = true := by simp; omega
      have w0 := wrap64p x hr.1 hr.2
      have hor := bv_or ((l.take k).foldl stepV 0#16) x hr.1 hr.2
      rw [← hst] at hor
      simp -implicitDefEqProofs only [d1, d2, cond_t, cond_f, w0, hor, more, S0, S1, S2, S3, S4, S5, S6, S7, S8, S9, S10, S11, S12, S13, S14, S15, S16, S17, opv, opvs, eget, env0, setD, lenStr, lenSl, isNilP, isNilS, putAt, if_true, if_false, reduceCtorEq, Nat.reduceLeDiff, Nat.reduceEqDiff, Nat.reduceSub, Nat.reduceMul, Nat.reduceAdd]
      exact lk_p0 (k + 1) (by simp) (by simp) (by omega) (by omega) rfl
    · have hno : stepV ((l.take k).foldl stepV 0#16) x = (l.take k).foldl stepV 0#16 := by unfold stepV; rw [if_neg hr]
      rw [hno] at hst
      by_cases h0 : 0 ≤ x
      · have d1 : decide (x ≥ 0) = true := by simp; omega
        have d2 : decide (x < 16) = false := by simp; omega
        simp -implicitDefEqProofs only [d1, d2, cond_t, cond_f, more, S0, S1, S2, S3, S4, S5, S6, S7, S8, S9, S10, S11, S12, S13, S14, S15, S16, S17, opv, opvs, eget, env0, setD, lenStr, lenSl, isNilP, isNilS, putAt, if_true, if_false, reduceCtorEq, Nat.reduceLeDiff, Nat.reduceEqDiff, Nat.reduceSub, Nat.reduceMul, Nat.reduceAdd]
        exact lk_p0 (k + 1) (by simp) (by simp) (by omega) (by omega) (by rw [hst]; rfl)
      · have d1 : decide (x ≥ 0) = false := by simp; omega
        simp -implicitDefEqProofs only [d1, cond_t, cond_f, more, S0, S1, S2, S3, S4, S5, S6, S7, S8, S9, S10, S11, S12, S13, S14, S15, S16, S17, opv, opvs, eget, env0, setD, lenStr, lenSl, isNilP, isNilS, putAt, if_true, if_false, reduceCtorEq, Nat.reduceLeDiff, Nat.reduceEqDiff, Nat.reduceSub, Nat.reduceMul, Nat.reduceAdd]
        exact lk_p0 (k + 1) (by simp) (by simp) (by omega) (by omega) (by rw [hst]; rfl)
  · have hkk := end_of h1 hk
    subst hkk
    simp -implicitDefEqProofs only [List.take_length, S0, S1, S2, S3, S4, S5, S6, S7, S8, S9, S10, S11, S12, S13, S14, S15, S16, S17, opv, opvs, eget, env0, setD, lenStr, lenSl, isNilP, isNilS, putAt, if_true, if_false, reduceCtorEq, Nat.reduceLeDiff, Nat.reduceEqDiff, Nat.reduceSub, Nat.reduceMul, Nat.reduceAdd]
    first | exact fin0 rfl | exact fin rfl rfl

def c__impl_verbSet__has : C := (.seq (.ops [⟨(some 4), none, (.mv (.c (.t (.bool false))))⟩]) (.seq (.ops [⟨(some 5), none, (.mv (.t 1))⟩, ⟨(some 6), none, (.bin .geq (.t 5) (.c (.t (.int .i64 0))))⟩, ⟨(some 7), none, (.mv (.t 6))⟩, ⟨(some 8), (some ⟨7, true⟩), (.mv (.t 1))⟩, ⟨(some 9), (some ⟨7, true⟩), (.bin .lss (.t 8) (.c (.t (.int .i64 16))))⟩, ⟨(some 10), none, (.pick (.t 7) (.t 9) (.c (.t (.bool false))))⟩, ⟨(some 11), none, (.mv (.t 10))⟩, ⟨(some 12), (some ⟨11, true⟩), (.mv (.t 0))⟩, ⟨(some 13), (some ⟨11, true⟩), (.mv (.t 1))⟩, ⟨(some 14), (some ⟨11, true⟩), (.convInt .u64 (.t 13))⟩, ⟨(some 15), (some ⟨11, true⟩), (.bin .shr (.t 12) (.t 14))⟩, ⟨(some 16), (some ⟨11, true⟩), (.bin .and (.t 15) (.c (.t (.int .u16 1))))⟩, ⟨(some 17), (some ⟨11, true⟩), (.bin .eql (.t 16) (.c (.t (.int .u16 1))))⟩, ⟨(some 18), none, (.pick (.t 11) (.t 17) (.c (.t (.bool false))))⟩, ⟨(some 4), none, (.mv (.t 18))⟩]) .ret))
theorem k__impl_verbSet__has : comp Tryd.prog 19 (Tryd.f101.body.getD .skip) = some c__impl_verbSet__has := by kernel_rfl

theorem _impl_verbSet__has (s : BitVec 16) (v : Int)  (σ : Store) : ACalls Tryd.prog 101 [.t (.int .u16 (s.toNat : Int)), .t (.int .i64 (v))] σ fun rr σ' => rr = .t (.bool (hasS s v)) ∧ σ' = σ := by
  refine acalls_of Tryd.func101 (by decide +kernel) (code := Tryd.f101.body.getD .skip) (n := 19) (c := c__impl_verbSet__has) (rs := [(.tmp 4)]) rfl rfl k__impl_verbSet__has (by kernel_rfl) (by simp) (fun hσ => ?_)
  have hh : True := trivial
  have fin : ∀ {u : V} {τ : Store}, u = .t (.bool (hasS s v)) → u.lt σ.length = true → retV σ.length (fun rr σ' => rr = .t (.bool (hasS s v)) ∧ σ' = σ) (σ ++ τ) (some [u]) := fun h h2 => ret_same rfl hσ h2 ⟨h, rfl⟩
  have fin0 : ∀ {u : V}, u = .t (.bool (hasS s v)) → retV σ.length (fun rr σ' => rr = .t (.bool (hasS s v)) ∧ σ' = σ) σ (some [u]) := fun h => ret_same0 rfl ⟨h, rfl⟩
  by_cases hr : 0 ≤ v ∧ v < 16
  · have d1 : decide (v ≥ 0) = true := by simp; omega
    have d2 : decide (v < 16) = true := by simp; omega
    have w0 := wrap64p v hr.1 hr.2
    have hb := bv_and s v hr.1 hr.2
    simp -implicitDefEqProofs only [c__impl_verbSet__has, d1, d2, cond_t, cond_f, w0, hb, S0, S1, S2, S3, S4, S5, S6, S7, S8, S9, S10, S11, S12, S13, S14, S15, S16, S17, opv, opvs, eget, env0, setD, lenStr, lenSl, isNilP, isNilS, putAt, if_true, if_false, reduceCtorEq, Nat.reduceLeDiff, Nat.reduceEqDiff, Nat.reduceSub, Nat.reduceMul, Nat.reduceAdd]
    first | exact fin0 (by rw [hasS, d1, d2]; rfl) | exact fin (by rw [hasS, d1, d2]; rfl) rfl
  · by_cases h0 : 0 ≤ v
    · have d1 : decide (v ≥ 0) = true := by simp; omega
      have d2 : decide (v < 16) = false := by simp; omega
      simp -implicitDefEqProofs only [c__impl_verbSet__has, d1, d2, cond_t, cond_f, S0, S1, S2, S3, S4, S5, S6, S7, S8, S9, S10, S11, S12, S13, S14, S15, S16, S17, opv, opvs, eget, env0, setD, lenStr, lenSl, isNilP, isNilS, putAt, if_true, if_false, reduceCtorEq, Nat.reduceLeDiff, Nat.reduceEqDiff, Nat.reduceSub, Nat.reduceMul, Nat.reduceAdd]
      first | exact fin0 (by rw [hasS, d2]; simp) | exact fin (by rw [hasS, d2]; simp) rfl
    · have d1 : decide (v ≥ 0) = false := by simp; omega
      simp -implicitDefEqProofs only [c__impl_verbSet__has, d1, cond_t, cond_f, S0, S1, S2, S3, S4, S5, S6, S7, S8, S9, S10, S11, S12, S13, S14, S15, S16, S17, opv, opvs, eget, env0, setD, lenStr, lenSl, isNilP, isNilS, putAt, if_true, if_false, reduceCtorEq, Nat.reduceLeDiff, Nat.reduceEqDiff, Nat.reduceSub, Nat.reduceMul, Nat.reduceAdd]
      first | exact fin0 (by rw [hasS, d1]; rfl) | exact fin (by rw [hasS, d1]; rfl) rfl

def c__impl_GateRule__wider : C := (.seq (.ops [⟨(some 4), none, (.box (.t 0))⟩, ⟨(some 6), none, (.box (.t 2))⟩, ⟨(some 8), none, (.mv (.c (.t (.bool false))))⟩]) (.seq (.ops [⟨(some 9), none, (.fieldAddr 0 (.t 4))⟩, ⟨(some 10), none, (.load none (.t 9))⟩, ⟨(some 11), none, (.call (.c (.fn (.func 100) [])) [(.t 10)])⟩, ⟨(some 12), none, (.mv (.t 3))⟩, ⟨(some 13), none, (.call (.c (.fn (.func 101) [])) [(.t 11), (.t 12)])⟩, ⟨(some 14), none, (.mv (.t 13))⟩, ⟨(some 15), (some ⟨14, true⟩), (.fieldAddr 1 (.t 4))⟩, ⟨(some 16), (some ⟨14, true⟩), (.load none (.t 15))⟩, ⟨(some 17), (some ⟨14, true⟩), (.bin .eql (.t 16) (.c (.t (.str []))))⟩, ⟨(some 18), (some ⟨14, true⟩), (.mv (.t 17))⟩, ⟨(some 19), (some ⟨18, false⟩), (.fieldAddr 1 (.t 4))⟩, ⟨(some 20), (some ⟨18, false⟩), (.load none (.t 19))⟩, ⟨(some 21), (some ⟨18, false⟩), (.fieldAddr 1 (.t 6))⟩, ⟨(some 22), (some ⟨18, false⟩), (.load none (.t 21))⟩, ⟨(some 23), (some ⟨18, false⟩), (.bin .eql (.t 20) (.t 22))⟩, ⟨(some 24), (some ⟨14, true⟩), (.pick (.t 18) (.c (.t (.bool true))) (.t 23))⟩, ⟨(some 25), none, (.pick (.t 14) (.t 24) (.c (.t (.bool false))))⟩, ⟨(some 26), none, (.mv (.t 25))⟩, ⟨(some 27), (some ⟨26, true⟩), (.fieldAddr 2 (.t 4))⟩, ⟨(some 28), (some ⟨26, true⟩), (.load none (.t 27))⟩, ⟨(some 29), (some ⟨26, true⟩), (.bin .eql (.t 28) (.c (.t (.str []))))⟩, ⟨(some 30), (some ⟨26, true⟩), (.mv (.t 29))⟩, ⟨(some 31), (some ⟨30, false⟩), (.fieldAddr 2 (.t 6))⟩, ⟨(some 32), (some ⟨30, false⟩), (.load none (.t 31))⟩, ⟨(some 33), (some ⟨30, false⟩), (.bin .neq (.t 32) (.c (.t (.str []))))⟩, ⟨(some 34), (some ⟨30, false⟩), (.mv (.t 33))⟩, ⟨(some 35), (some ⟨34, true⟩), (.mv (.t 1))⟩, ⟨(some 36), (some ⟨34, true⟩), (.fieldAddr 2 (.t 6))⟩, ⟨(some 37), (some ⟨34, true⟩), (.load none (.t 36))⟩, ⟨(some 38), (some ⟨34, true⟩), (.fieldAddr 2 (.t 4))⟩, ⟨(some 39), (some ⟨34, true⟩), (.load none (.t 38))⟩, ⟨(some 40), (some ⟨34, true⟩), (.call (.c (.fn (.func 102) [])) [(.t 35), (.t 37), (.t 39)])⟩, ⟨(some 41), (some ⟨30, false⟩), (.pick (.t 34) (.t 40) (.c (.t (.bool false))))⟩, ⟨(some 42), (some ⟨26, true⟩), (.pick (.t 30) (.c (.t (.bool true))) (.t 41))⟩, ⟨(some 43), none, (.pick (.t 26) (.t 42) (.c (.t (.bool false))))⟩, ⟨(some 44), none, (.mv (.t 43))⟩, ⟨(some 45), (some ⟨44, true⟩), (.fieldAddr 3 (.t 6))⟩, ⟨(some 46), (some ⟨44, true⟩), (.load none (.t 45))⟩, ⟨(some 47), (some ⟨44, true⟩), (.fieldAddr 3 (.t 4))⟩, ⟨(some 48), (some ⟨44, true⟩), (.load none (.t 47))⟩, ⟨(some 49), (some ⟨44, true⟩), (.call (.c (.fn (.func 103) [])) [(.t 46), (.t 48)])⟩, ⟨(some 50), none, (.pick (.t 44) (.t 49) (.c (.t (.bool false))))⟩, ⟨(some 8), none, (.mv (.t 50))⟩]) .ret))
theorem k__impl_GateRule__wider : comp Tryd.prog 51 (Tryd.f76.body.getD .skip) = some c__impl_GateRule__wider := by kernel_rfl

theorem _impl_GateRule__wider (q : GateRule) (hq : q.Ok) (tm : List GateTeam) (ht : tm.length ≤ 1048576) (r : GateRule) (v : Int) (h0 : 0 ≤ v) (h1 : v < 16)  (σ : Store) : ACalls Tryd.prog 76 [.agg (q.vs), .t (tGateTeamS tm), .agg (r.vs), .t (.int .i64 (v))] σ fun rr σ' => rr = .t (.bool (widerP tm r v q)) ∧ σ' = σ := by
  refine acalls_of Tryd.func76 (by decide +kernel) (code := Tryd.f76.body.getD .skip) (n := 51) (c := c__impl_GateRule__wider) (rs := [(.tmp 8)]) rfl rfl k__impl_GateRule__wider (by kernel_rfl) (by simp) (fun hσ => ?_)
  have hh : True := trivial
  have fin : ∀ {u : V} {τ : Store}, u = .t (.bool (widerP tm r v q)) → u.lt σ.length = true → retV σ.length (fun rr σ' => rr = .t (.bool (widerP tm r v q)) ∧ σ' = σ) (σ ++ τ) (some [u]) := fun h h2 => ret_same rfl hσ h2 ⟨h, rfl⟩
  have fin0 : ∀ {u : V}, u = .t (.bool (widerP tm r v q)) → retV σ.length (fun rr σ' => rr = .t (.bool (widerP tm r v q)) ∧ σ' = σ) σ (some [u]) := fun h => ret_same0 rfl ⟨h, rfl⟩
  simp -implicitDefEqProofs only [c__impl_GateRule__wider, GateRule.vs, S0, S1, S2, S3, S4, S5, S6, S7, S8, S9, S10, S11, S12, S13, S14, S15, S16, S17, opv, opvs, eget, env0, setD, lenStr, lenSl, isNilP, isNilS, putAt, if_true, if_false, reduceCtorEq, Nat.reduceLeDiff, Nat.reduceEqDiff, Nat.reduceSub, Nat.reduceMul, Nat.reduceAdd]
  refine call_pure (impl_setOf q.Verbs hq.Verbs.1 _) ?_
  simp -implicitDefEqProofs only [S0, S1, S2, S3, S4, S5, S6, S7, S8, S9, S10, S11, S12, S13, S14, S15, S16, S17, opv, opvs, eget, env0, setD, lenStr, lenSl, isNilP, isNilS, putAt, if_true, if_false, reduceCtorEq, Nat.reduceLeDiff, Nat.reduceEqDiff, Nat.reduceSub, Nat.reduceMul, Nat.reduceAdd]
  refine call_pure (_impl_verbSet__has (setV q.Verbs) v _) ?_
  rw [has_set _ _ h0 h1]
  simp -implicitDefEqProofs only [S0, S1, S2, S3, S4, S5, S6, S7, S8, S9, S10, S11, S12, S13, S14, S15, S16, S17, opv, opvs, eget, env0, setD, lenStr, lenSl, isNilP, isNilS, putAt, if_true, if_false, reduceCtorEq, Nat.reduceLeDiff, Nat.reduceEqDiff, Nat.reduceSub, Nat.reduceMul, Nat.reduceAdd]
  repeat' (first
    | ((with_reducible refine cond_known (fun h => ?_) (fun h => ?_)) <;> (replace hh := And.intro h hh; clear h; simp -implicitDefEqProofs only [hh, cond_t, cond_f, S0, S1, S2, S3, S4, S5, S6, S7, S8, S9, S10, S11, S12, S13, S14, S15, S16, S17, opv, opvs, eget, env0, setD, lenStr, lenSl, isNilP, isNilS, putAt, if_true, if_false, reduceCtorEq, Nat.reduceLeDiff, Nat.reduceEqDiff, Nat.reduceSub, Nat.reduceMul, Nat.reduceAdd]))
    | ((with_reducible refine call_pure (impl_GateUnder tm r.Team q.Team ht _) ?_); simp -implicitDefEqProofs only [hh, cond_t, cond_f, S0, S1, S2, S3, S4, S5, S6, S7, S8, S9, S10, S11, S12, S13, S14, S15, S16, S17, opv, opvs, eget, env0, setD, lenStr, lenSl, isNilP, isNilS, putAt, if_true, if_false, reduceCtorEq, Nat.reduceLeDiff, Nat.reduceEqDiff, Nat.reduceSub, Nat.reduceMul, Nat.reduceAdd])
    | ((with_reducible refine call_pure (strings_HasPrefix r.Prefix q.Prefix _) ?_); simp -implicitDefEqProofs only [hh, cond_t, cond_f, S0, S1, S2, S3, S4, S5, S6, S7, S8, S9, S10, S11, S12, S13, S14, S15, S16, S17, opv, opvs, eget, env0, setD, lenStr, lenSl, isNilP, isNilS, putAt, if_true, if_false, reduceCtorEq, Nat.reduceLeDiff, Nat.reduceEqDiff, Nat.reduceSub, Nat.reduceMul, Nat.reduceAdd])
    | (first | ((with_reducible refine fin0 ?_); refine tb ?_; (try simp only [Known] at hh); grind [widerP]) | ((with_reducible refine fin ?_ ?_); rotate_left; exact rfl; refine tb ?_; (try simp only [Known] at hh); grind [widerP])))

def c_spec_l4AllOk : C := (.seq (.ops [⟨(some 5), none, (.box (.t 2))⟩, ⟨(some 6), none, (.mv (.c (.t (.bool false))))⟩]) (.seq (.seq (.ops [⟨(some 8), none, (.mv (.t 0))⟩, ⟨(some 9), none, (.call (.c (.fn (.func 70) [])) [(.t 8)])⟩, ⟨(some 10), none, (.un .not (.t 9))⟩, ⟨(some 11), none, (.mv (.t 10))⟩, ⟨(some 12), (some ⟨11, false⟩), (.load (some 4) (.t 5))⟩, ⟨(some 13), (some ⟨11, false⟩), (.call (.c (.fn (.func 71) [])) [(.t 12)])⟩, ⟨(some 14), (some ⟨11, false⟩), (.un .not (.t 13))⟩, ⟨(some 15), none, (.pick (.t 11) (.c (.t (.bool true))) (.t 14))⟩]) (.cond (.t 15) (.seq (.ops [⟨(some 6), none, (.mv (.c (.t (.bool false))))⟩]) .ret) .skip)) (.seq (.seq (.ops [⟨(some 7), none, (.mv (.c (.t (.int .i64 0))))⟩]) (.block 0 (.loop (.seq (.seq (.ops [⟨(some 16), none, (.mv (.t 7))⟩, ⟨(some 17), none, (.mv (.t 1))⟩, ⟨(some 18), none, (.len false (.t 17))⟩, ⟨(some 19), none, (.bin .lss (.t 16) (.t 18))⟩]) (.cond (.t 19) .skip (.exit 0))) (.seq (.block 1 (.seq (.ops [⟨(some 22), none, (.mv (.t 1))⟩, ⟨(some 23), none, (.mv (.t 7))⟩, ⟨(some 24), none, (.indexAddr 4 (.t 22) (.t 23))⟩, ⟨(some 25), none, (.load (some 4) (.t 24))⟩, ⟨(some 26), none, (.call (.c (.fn (.func 71) [])) [(.t 25)])⟩, ⟨(some 27), none, (.un .not (.t 26))⟩]) (.cond (.t 27) (.seq (.ops [⟨(some 6), none, (.mv (.c (.t (.bool false))))⟩]) .ret) .skip))) (.ops [⟨(some 20), none, (.mv (.t 7))⟩, ⟨(some 21), none, (.bin .add (.t 20) (.c (.t (.int .i64 1))))⟩, ⟨(some 7), none, (.mv (.t 21))⟩])))))) (.seq (.ops [⟨(some 6), none, (.mv (.c (.t (.bool true))))⟩]) .ret))))
theorem k_spec_l4AllOk : comp Tryd.prog 28 (Tryd.f37.body.getD .skip) = some c_spec_l4AllOk := by kernel_rfl

theorem spec_l4AllOk (tm : List GateTeam) (ht : GateTeam.OkS tm) (rules : List GateRule) (hu : GateRule.OkS rules) (r : GateRule) (hr : r.Ok)  (σ : Store) : ACalls Tryd.prog 37 [.t (tGateTeamS tm), .t (tGateRuleS rules), .agg (r.vs)] σ fun rr σ' => rr = .t (.bool (allRules tm rules r)) ∧ σ' = σ := by
  refine acalls_of Tryd.func37 (by decide +kernel) (code := Tryd.f37.body.getD .skip) (n := 28) (c := c_spec_l4AllOk) (rs := [(.tmp 6)]) rfl rfl k_spec_l4AllOk (by kernel_rfl) (by simp) (fun hσ => ?_)
  have hh : True := trivial
  have fin : ∀ {u : V} {τ : Store}, u = .t (.bool (allRules tm rules r)) → u.lt σ.length = true → retV σ.length (fun rr σ' => rr = .t (.bool (allRules tm rules r)) ∧ σ' = σ) (σ ++ τ) (some [u]) := fun h h2 => ret_same rfl hσ h2 ⟨h, rfl⟩
  have fin0 : ∀ {u : V}, u = .t (.bool (allRules tm rules r)) → retV σ.length (fun rr σ' => rr = .t (.bool (allRules tm rules r)) ∧ σ' = σ) σ (some [u]) := fun h => ret_same0 rfl ⟨h, rfl⟩
  have y1 := hu.1
  simp -implicitDefEqProofs only [c_spec_l4AllOk, GateRule.vs, tGateRuleS, List.length_map, S0, S1, S2, S3, S4, S5, S6, S7, S8, S9, S10, S11, S12, S13, S14, S15, S16, S17, opv, opvs, eget, env0, setD, lenStr, lenSl, isNilP, isNilS, putAt, if_true, if_false, reduceCtorEq, Nat.reduceLeDiff, Nat.reduceEqDiff, Nat.reduceSub, Nat.reduceMul, Nat.reduceAdd]
  repeat' (first
    | ((with_reducible refine cond_known (fun h => ?_) (fun h => ?_)) <;> (replace hh := And.intro h hh; clear h; simp -implicitDefEqProofs only [hh, cond_t, cond_f, List.length_map, S0, S1, S2, S3, S4, S5, S6, S7, S8, S9, S10, S11, S12, S13, S14, S15, S16, S17, opv, opvs, eget, env0, setD, lenStr, lenSl, isNilP, isNilS, putAt, if_true, if_false, reduceCtorEq, Nat.reduceLeDiff, Nat.reduceEqDiff, Nat.reduceSub, Nat.reduceMul, Nat.reduceAdd]))
    | ((with_reducible refine call_pure (spec_GateTeamsOk tm ht _) ?_); simp -implicitDefEqProofs only [hh, cond_t, cond_f, List.length_map, S0, S1, S2, S3, S4, S5, S6, S7, S8, S9, S10, S11, S12, S13, S14, S15, S16, S17, opv, opvs, eget, env0, setD, lenStr, lenSl, isNilP, isNilS, putAt, if_true, if_false, reduceCtorEq, Nat.reduceLeDiff, Nat.reduceEqDiff, Nat.reduceSub, Nat.reduceMul, Nat.reduceAdd])
    | ((with_reducible refine call_pure (spec_l4RuleOk r hr _) ?_); simp -implicitDefEqProofs only [hh, cond_t, cond_f, List.length_map, S0, S1, S2, S3, S4, S5, S6, S7, S8, S9, S10, S11, S12, S13, S14, S15, S16, S17, opv, opvs, eget, env0, setD, lenStr, lenSl, isNilP, isNilS, putAt, if_true, if_false, reduceCtorEq, Nat.reduceLeDiff, Nat.reduceEqDiff, Nat.reduceSub, Nat.reduceMul, Nat.reduceAdd])
    | (first | ((with_reducible refine fin0 ?_); refine tb ?_; (try simp only [Known] at hh); grind [allRules]) | ((with_reducible refine fin ?_ ?_); rotate_left; exact rfl; refine tb ?_; (try simp only [Known] at hh); grind [allRules])))
  refine loop_p [7, 1] [1] (fun k : Nat => [(7, .t (.int .i64 (k : Nat)))]) (fun k => k ≤ (rules).length ∧ ((rules).take k).all ruleOk = true) (fun k => (rules).length - k) 0 (by simp) ⟨Nat.zero_le _, rfl⟩ rfl ?_
  rintro k ⟨hk, hall⟩
  simp -implicitDefEqProofs only [keep, List.length_map, S0, S1, S2, S3, S4, S5, S6, S7, S8, S9, S10, S11, S12, S13, S14, S15, S16, S17, opv, opvs, eget, env0, setD, lenStr, lenSl, isNilP, isNilS, putAt, if_true, if_false, reduceCtorEq, Nat.reduceLeDiff, Nat.reduceEqDiff, Nat.reduceSub, Nat.reduceMul, Nat.reduceAdd]
  refine cond_split (fun h1 => ?_) (fun h1 => ?_)
  · obtain ⟨x, hx, hlt⟩ := at_of h1
    clear h1 hh
    have hh : True := trivial
    simp -implicitDefEqProofs only [hx, nat_nn, Nat.zero_le, List.getElem?_map, Option.map_some, GateRule.ts, List.length_map, i64_succ (show k < 4611686018427387904 by omega), S0, S1, S2, S3, S4, S5, S6, S7, S8, S9, S10, S11, S12, S13, S14, S15, S16, S17, opv, opvs, eget, env0, setD, lenStr, lenSl, isNilP, isNilS, putAt, if_true, if_false, reduceCtorEq, Nat.reduceLeDiff, Nat.reduceEqDiff, Nat.reduceSub, Nat.reduceMul, Nat.reduceAdd]
    repeat' (first
    | ((with_reducible refine cond_known (fun h => ?_) (fun h => ?_)) <;> (replace hh := And.intro h hh; clear h; simp -implicitDefEqProofs only [hh, cond_t, cond_f, hx, nat_nn, Nat.zero_le, List.getElem?_map, Option.map_some, GateRule.ts, List.length_map, i64_succ (show k < 4611686018427387904 by omega), S0, S1, S2, S3, S4, S5, S6, S7, S8, S9, S10, S11, S12, S13, S14, S15, S16, S17, opv, opvs, eget, env0, setD, lenStr, lenSl, isNilP, isNilS, putAt, if_true, if_false, reduceCtorEq, Nat.reduceLeDiff, Nat.reduceEqDiff, Nat.reduceSub, Nat.reduceMul, Nat.reduceAdd]))
    | ((with_reducible refine call_pure (spec_l4RuleOk x (hu.2 x (mem_at hx)) _) ?_); simp -implicitDefEqProofs only [hh, cond_t, cond_f, hx, nat_nn, Nat.zero_le, List.getElem?_map, Option.map_some, GateRule.ts, List.length_map, i64_succ (show k < 4611686018427387904 by omega), S0, S1, S2, S3, S4, S5, S6, S7, S8, S9, S10, S11, S12, S13, S14, S15, S16, S17, opv, opvs, eget, env0, setD, lenStr, lenSl, isNilP, isNilS, putAt, if_true, if_false, reduceCtorEq, Nat.reduceLeDiff, Nat.reduceEqDiff, Nat.reduceSub, Nat.reduceMul, Nat.reduceAdd])
    | (first | ((with_reducible refine fin0 ?_); refine tb ?_; (try simp only [Known] at hh); have hno := all_not (l := (rules)) (p := ruleOk) hx; grind [allRules]) | ((with_reducible refine fin ?_ ?_); rotate_left; exact rfl; refine tb ?_; (try simp only [Known] at hh); have hno := all_not (l := (rules)) (p := ruleOk) hx; grind [allRules]) | (refine lk_p0 (k + 1) (by simp) (by simp) (by omega) ⟨by omega, all_step hx hall ?_⟩ rfl; (try simp only [Known] at hh); grind) | (refine lk_p (k + 1) (by simp) (by simp) hσ rfl (by omega) ⟨by omega, all_step hx hall ?_⟩ rfl rfl; (try simp only [Known] at hh); grind) | (refine lk_pm (k + 1) (Nat.le_refl _) (by simp) hσ rfl rfl (by omega) ⟨by omega, all_step hx hall ?_⟩ (by simp [ltE, keep, eget, V.lt]) rfl; (try simp only [Known] at hh); grind)))
  replace hall := all_len hall ((end_of h1 hk).trans (by rfl))
  clear h1 hk
  simp -implicitDefEqProofs only [S0, S1, S2, S3, S4, S5, S6, S7, S8, S9, S10, S11, S12, S13, S14, S15, S16, S17, opv, opvs, eget, env0, setD, lenStr, lenSl, isNilP, isNilS, putAt, if_true, if_false, reduceCtorEq, Nat.reduceLeDiff, Nat.reduceEqDiff, Nat.reduceSub, Nat.reduceMul, Nat.reduceAdd]
  (first | ((with_reducible refine fin0 ?_); refine tb ?_; (try simp only [Known] at hh); grind [allRules]) | ((with_reducible refine fin ?_ ?_); rotate_left; exact rfl; refine tb ?_; (try simp only [Known] at hh); grind [allRules]))
def c_impl_rulesOk : C := (.seq (.ops [⟨(some 5), none, (.box (.t 2))⟩, ⟨(some 6), none, (.mv (.c (.t (.bool false))))⟩]) (.seq (.seq (.ops [⟨(some 9), none, (.mv (.t 0))⟩, ⟨(some 10), none, (.call (.c (.fn (.func 66) [])) [(.t 9)])⟩, ⟨(some 11), none, (.un .not (.t 10))⟩, ⟨(some 12), none, (.mv (.t 11))⟩, ⟨(some 13), (some ⟨12, false⟩), (.load (some 4) (.t 5))⟩, ⟨(some 14), (some ⟨12, false⟩), (.call (.c (.fn (.func 67) [])) [(.t 13)])⟩, ⟨(some 15), (some ⟨12, false⟩), (.un .not (.t 14))⟩, ⟨(some 16), none, (.pick (.t 12) (.c (.t (.bool true))) (.t 15))⟩]) (.cond (.t 16) (.seq (.ops [⟨(some 6), none, (.mv (.c (.t (.bool false))))⟩]) .ret) .skip)) (.seq (.seq (.ops [⟨(some 17), none, (.mv (.t 1))⟩, ⟨(some 18), none, (.len false (.t 17))⟩, ⟨(some 19), none, (.mv (.c (.t (.int .i64 0))))⟩]) (.block 0 (.loop (.seq (.ops [⟨(some 20), none, (.bin .lss (.t 19) (.t 18))⟩]) (.seq (.cond (.t 20) .skip (.exit 0)) (.seq (.block 1 (.seq (.ops [⟨(some 21), none, (.indexAddr 4 (.t 17) (.t 19))⟩, ⟨(some 22), none, (.load (some 4) (.t 21))⟩, ⟨(some 8), none, (.new [.nils, (.t (.str [])), (.t (.str [])), (.t (.str []))])⟩, ⟨none, none, (.store 4 (.t 8) (.t 22))⟩]) (.seq (.ops [⟨(some 23), none, (.load (some 4) (.t 8))⟩, ⟨(some 24), none, (.call (.c (.fn (.func 67) [])) [(.t 23)])⟩, ⟨(some 25), none, (.un .not (.t 24))⟩]) (.cond (.t 25) (.seq (.ops [⟨(some 6), none, (.mv (.c (.t (.bool false))))⟩]) .ret) .skip)))) (.ops [⟨(some 26), none, (.bin .add (.t 19) (.c (.t (.int .i64 1))))⟩, ⟨(some 19), none, (.mv (.t 26))⟩]))))))) (.seq (.ops [⟨(some 6), none, (.mv (.c (.t (.bool true))))⟩]) .ret))))
theorem k_impl_rulesOk : comp Tryd.prog 27 (Tryd.f42.body.getD .skip) = some c_impl_rulesOk := by kernel_rfl

theorem impl_rulesOk (tm : List GateTeam) (ht : GateTeam.OkS tm) (rules : List GateRule) (hu : GateRule.OkS rules) (r : GateRule) (hr : r.Ok)  (σ : Store) : ACalls Tryd.prog 42 [.t (tGateTeamS tm), .t (tGateRuleS rules), .agg (r.vs)] σ fun rr σ' => rr = .t (.bool (allRules tm rules r)) ∧ σ' = σ := by
  refine acalls_of Tryd.func42 (by decide +kernel) (code := Tryd.f42.body.getD .skip) (n := 27) (c := c_impl_rulesOk) (rs := [(.tmp 6)]) rfl rfl k_impl_rulesOk (by kernel_rfl) (by simp) (fun hσ => ?_)
  have hh : True := trivial
  have fin : ∀ {u : V} {τ : Store}, u = .t (.bool (allRules tm rules r)) → u.lt σ.length = true → retV σ.length (fun rr σ' => rr = .t (.bool (allRules tm rules r)) ∧ σ' = σ) (σ ++ τ) (some [u]) := fun h h2 => ret_same rfl hσ h2 ⟨h, rfl⟩
  have fin0 : ∀ {u : V}, u = .t (.bool (allRules tm rules r)) → retV σ.length (fun rr σ' => rr = .t (.bool (allRules tm rules r)) ∧ σ' = σ) σ (some [u]) := fun h => ret_same0 rfl ⟨h, rfl⟩
  have y1 := hu.1
  simp -implicitDefEqProofs only [c_impl_rulesOk, GateRule.vs, tGateRuleS, List.length_map, S0, S1, S2, S3, S4, S5, S6, S7, S8, S9, S10, S11, S12, S13, S14, S15, S16, S17, opv, opvs, eget, env0, setD, lenStr, lenSl, isNilP, isNilS, putAt, if_true, if_false, reduceCtorEq, Nat.reduceLeDiff, Nat.reduceEqDiff, Nat.reduceSub, Nat.reduceMul, Nat.reduceAdd]
  repeat' (first
    | ((with_reducible refine cond_known (fun h => ?_) (fun h => ?_)) <;> (replace hh := And.intro h hh; clear h; simp -implicitDefEqProofs only [hh, cond_t, cond_f, List.length_map, S0, S1, S2, S3, S4, S5, S6, S7, S8, S9, S10, S11, S12, S13, S14, S15, S16, S17, opv, opvs, eget, env0, setD, lenStr, lenSl, isNilP, isNilS, putAt, if_true, if_false, reduceCtorEq, Nat.reduceLeDiff, Nat.reduceEqDiff, Nat.reduceSub, Nat.reduceMul, Nat.reduceAdd]))
    | ((with_reducible refine call_pure (impl_GateTeamsOk tm ht _) ?_); simp -implicitDefEqProofs only [hh, cond_t, cond_f, List.length_map, S0, S1, S2, S3, S4, S5, S6, S7, S8, S9, S10, S11, S12, S13, S14, S15, S16, S17, opv, opvs, eget, env0, setD, lenStr, lenSl, isNilP, isNilS, putAt, if_true, if_false, reduceCtorEq, Nat.reduceLeDiff, Nat.reduceEqDiff, Nat.reduceSub, Nat.reduceMul, Nat.reduceAdd])
    | ((with_reducible refine call_pure (_impl_GateRule__ok r hr _) ?_); simp -implicitDefEqProofs only [hh, cond_t, cond_f, List.length_map, S0, S1, S2, S3, S4, S5, S6, S7, S8, S9, S10, S11, S12, S13, S14, S15, S16, S17, opv, opvs, eget, env0, setD, lenStr, lenSl, isNilP, isNilS, putAt, if_true, if_false, reduceCtorEq, Nat.reduceLeDiff, Nat.reduceEqDiff, Nat.reduceSub, Nat.reduceMul, Nat.reduceAdd])
    | (first | ((with_reducible refine fin0 ?_); refine tb ?_; (try simp only [Known] at hh); grind [allRules]) | ((with_reducible refine fin ?_ ?_); rotate_left; exact rfl; refine tb ?_; (try simp only [Known] at hh); grind [allRules])))
  refine loop_p [19, 17, 18] [17, 18] (fun k : Nat => [(19, .t (.int .i64 (k : Nat)))]) (fun k => k ≤ (rules).length ∧ ((rules).take k).all ruleOk = true) (fun k => (rules).length - k) 0 (by simp) ⟨Nat.zero_le _, rfl⟩ rfl ?_
  rintro k ⟨hk, hall⟩
  simp -implicitDefEqProofs only [keep, List.length_map, S0, S1, S2, S3, S4, S5, S6, S7, S8, S9, S10, S11, S12, S13, S14, S15, S16, S17, opv, opvs, eget, env0, setD, lenStr, lenSl, isNilP, isNilS, putAt, if_true, if_false, reduceCtorEq, Nat.reduceLeDiff, Nat.reduceEqDiff, Nat.reduceSub, Nat.reduceMul, Nat.reduceAdd]
  refine cond_split (fun h1 => ?_) (fun h1 => ?_)
  · obtain ⟨x, hx, hlt⟩ := at_of h1
    clear h1 hh
    have hh : True := trivial
    simp -implicitDefEqProofs only [hx, nat_nn, Nat.zero_le, List.getElem?_map, Option.map_some, GateRule.ts, List.length_map, i64_succ (show k < 4611686018427387904 by omega), S0, S1, S2, S3, S4, S5, S6, S7, S8, S9, S10, S11, S12, S13, S14, S15, S16, S17, opv, opvs, eget, env0, setD, lenStr, lenSl, isNilP, isNilS, putAt, if_true, if_false, reduceCtorEq, Nat.reduceLeDiff, Nat.reduceEqDiff, Nat.reduceSub, Nat.reduceMul, Nat.reduceAdd]
    repeat' (first
    | ((with_reducible refine cond_known (fun h => ?_) (fun h => ?_)) <;> (replace hh := And.intro h hh; clear h; simp -implicitDefEqProofs only [hh, cond_t, cond_f, hx, nat_nn, Nat.zero_le, List.getElem?_map, Option.map_some, GateRule.ts, List.length_map, i64_succ (show k < 4611686018427387904 by omega), S0, S1, S2, S3, S4, S5, S6, S7, S8, S9, S10, S11, S12, S13, S14, S15, S16, S17, opv, opvs, eget, env0, setD, lenStr, lenSl, isNilP, isNilS, putAt, if_true, if_false, reduceCtorEq, Nat.reduceLeDiff, Nat.reduceEqDiff, Nat.reduceSub, Nat.reduceMul, Nat.reduceAdd]))
    | ((with_reducible refine call_pure (_impl_GateRule__ok x (hu.2 x (mem_at hx)) _) ?_); simp -implicitDefEqProofs only [hh, cond_t, cond_f, hx, nat_nn, Nat.zero_le, List.getElem?_map, Option.map_some, GateRule.ts, List.length_map, i64_succ (show k < 4611686018427387904 by omega), S0, S1, S2, S3, S4, S5, S6, S7, S8, S9, S10, S11, S12, S13, S14, S15, S16, S17, opv, opvs, eget, env0, setD, lenStr, lenSl, isNilP, isNilS, putAt, if_true, if_false, reduceCtorEq, Nat.reduceLeDiff, Nat.reduceEqDiff, Nat.reduceSub, Nat.reduceMul, Nat.reduceAdd])
    | (first | ((with_reducible refine fin0 ?_); refine tb ?_; (try simp only [Known] at hh); have hno := all_not (l := (rules)) (p := ruleOk) hx; grind [allRules]) | ((with_reducible refine fin ?_ ?_); rotate_left; exact rfl; refine tb ?_; (try simp only [Known] at hh); have hno := all_not (l := (rules)) (p := ruleOk) hx; grind [allRules]) | (refine lk_p0 (k + 1) (by simp) (by simp) (by omega) ⟨by omega, all_step hx hall ?_⟩ rfl; (try simp only [Known] at hh); grind) | (refine lk_p (k + 1) (by simp) (by simp) hσ rfl (by omega) ⟨by omega, all_step hx hall ?_⟩ rfl rfl; (try simp only [Known] at hh); grind) | (refine lk_pm (k + 1) (Nat.le_refl _) (by simp) hσ rfl rfl (by omega) ⟨by omega, all_step hx hall ?_⟩ (by simp [ltE, keep, eget, V.lt]) rfl; (try simp only [Known] at hh); grind)))
  replace hall := all_len hall ((end_of h1 hk).trans (by rfl))
  clear h1 hk
  simp -implicitDefEqProofs only [S0, S1, S2, S3, S4, S5, S6, S7, S8, S9, S10, S11, S12, S13, S14, S15, S16, S17, opv, opvs, eget, env0, setD, lenStr, lenSl, isNilP, isNilS, putAt, if_true, if_false, reduceCtorEq, Nat.reduceLeDiff, Nat.reduceEqDiff, Nat.reduceSub, Nat.reduceMul, Nat.reduceAdd]
  (first | ((with_reducible refine fin0 ?_); refine tb ?_; (try simp only [Known] at hh); grind [allRules]) | ((with_reducible refine fin ?_ ?_); rotate_left; exact rfl; refine tb ?_; (try simp only [Known] at hh); grind [allRules]))
def c_spec_l4Lacks : C := (.seq (.ops [⟨(some 5), none, (.box (.t 2))⟩, ⟨(some 6), none, (.mv (.c (.t (.int .i64 0))))⟩]) (.seq (.seq (.ops [⟨(some 7), none, (.mv (.c (.t (.int .i64 0))))⟩]) (.block 0 (.loop (.seq (.seq (.ops [⟨(some 11), none, (.mv (.t 7))⟩, ⟨(some 12), none, (.fieldAddr 0 (.t 5))⟩, ⟨(some 13), none, (.load none (.t 12))⟩, ⟨(some 14), none, (.len false (.t 13))⟩, ⟨(some 15), none, (.bin .lss (.t 11) (.t 14))⟩]) (.cond (.t 15) .skip (.exit 0))) (.seq (.block 1 (.seq (.ops [⟨(some 8), none, (.mv (.c (.t (.bool false))))⟩]) (.seq (.seq (.ops [⟨(some 9), none, (.mv (.c (.t (.int .i64 0))))⟩]) (.block 2 (.loop (.seq (.seq (.ops [⟨(some 18), none, (.mv (.t 9))⟩, ⟨(some 19), none, (.mv (.t 1))⟩, ⟨(some 20), none, (.len false (.t 19))⟩, ⟨(some 21), none, (.bin .lss (.t 18) (.t 20))⟩]) (.cond (.t 21) .skip (.exit 2))) (.seq (.block 3 (.seq (.ops [⟨(some 24), none, (.mv (.t 1))⟩, ⟨(some 25), none, (.mv (.t 9))⟩, ⟨(some 26), none, (.indexAddr 4 (.t 24) (.t 25))⟩, ⟨(some 27), none, (.load (some 4) (.t 26))⟩, ⟨(some 10), none, (.new [.nils, (.t (.str [])), (.t (.str [])), (.t (.str []))])⟩, ⟨none, none, (.store 4 (.t 10) (.t 27))⟩]) (.seq (.drawn [(.mk 0 false ⟨(some 28), none, (.load (some 4) (.t 10))⟩ []), (.mk 1 false ⟨(some 29), none, (.fieldAddr 0 (.t 5))⟩ []), (.mk 2 false ⟨(some 30), none, (.load none (.t 29))⟩ []), (.mk 3 false ⟨(some 31), none, (.mv (.t 7))⟩ []), (.mk 4 false ⟨(some 32), none, (.indexAddr 1 (.t 30) (.t 31))⟩ []), (.mk 5 false ⟨(some 33), none, (.load none (.t 32))⟩ []), (.mk 6 false ⟨(some 34), none, (.call (.c (.fn (.func 72) [])) [(.t 28), (.t 33)])⟩ []), (.mk 7 false ⟨(some 35), none, (.mv (.t 34))⟩ []), (.mk 8 false ⟨(some 36), (some ⟨35, true⟩), (.fieldAddr 1 (.t 10))⟩ []), (.mk 9 false ⟨(some 37), (some ⟨35, true⟩), (.load none (.t 36))⟩ []), (.mk 10 false ⟨(some 38), (some ⟨35, true⟩), (.bin .eql (.t 37) (.c (.t (.str []))))⟩ []), (.mk 11 false ⟨(some 39), (some ⟨35, true⟩), (.mv (.t 38))⟩ []), (.mk 12 false ⟨(some 40), (some ⟨39, false⟩), (.fieldAddr 1 (.t 10))⟩ []), (.mk 13 false ⟨(some 41), (some ⟨39, false⟩), (.load none (.t 40))⟩ []), (.mk 14 false ⟨(some 42), (some ⟨39, false⟩), (.fieldAddr 1 (.t 5))⟩ []), (.mk 15 false ⟨(some 43), (some ⟨39, false⟩), (.load none (.t 42))⟩ []), (.mk 16 false ⟨(some 44), (some ⟨39, false⟩), (.bin .eql (.t 41) (.t 43))⟩ []), (.mk 17 false ⟨(some 45), (some ⟨35, true⟩), (.pick (.t 39) (.c (.t (.bool true))) (.t 44))⟩ []), (.mk 18 false ⟨(some 46), none, (.pick (.t 35) (.t 45) (.c (.t (.bool false))))⟩ []), (.mk 19 false ⟨(some 47), none, (.mv (.t 46))⟩ []), (.mk 20 false ⟨(some 48), (some ⟨47, true⟩), (.fieldAddr 2 (.t 10))⟩ []), (.mk 21 false ⟨(some 49), (some ⟨47, true⟩), (.load none (.t 48))⟩ []), (.mk 22 false ⟨(some 50), (some ⟨47, true⟩), (.bin .eql (.t 49) (.c (.t (.str []))))⟩ []), (.mk 23 false ⟨(some 51), (some ⟨47, true⟩), (.mv (.t 50))⟩ []), (.mk 24 false ⟨(some 52), (some ⟨51, false⟩), (.fieldAddr 2 (.t 5))⟩ []), (.mk 25 false ⟨(some 53), (some ⟨51, false⟩), (.load none (.t 52))⟩ []), (.mk 26 false ⟨(some 54), (some ⟨51, false⟩), (.bin .neq (.t 53) (.c (.t (.str []))))⟩ []), (.mk 27 false ⟨(some 55), (some ⟨51, false⟩), (.mv (.t 54))⟩ []), (.mk 28 false ⟨(some 56), (some ⟨55, true⟩), (.mv (.t 0))⟩ []), (.mk 29 false ⟨(some 57), (some ⟨55, true⟩), (.fieldAddr 2 (.t 5))⟩ []), (.mk 30 false ⟨(some 58), (some ⟨55, true⟩), (.load none (.t 57))⟩ []), (.mk 31 false ⟨(some 59), (some ⟨55, true⟩), (.fieldAddr 2 (.t 10))⟩ []), (.mk 32 false ⟨(some 60), (some ⟨55, true⟩), (.load none (.t 59))⟩ []), (.mk 33 false ⟨(some 61), (some ⟨55, true⟩), (.call (.c (.fn (.func 73) [])) [(.t 56), (.t 58), (.t 60)])⟩ []), (.mk 34 false ⟨(some 62), (some ⟨51, false⟩), (.pick (.t 55) (.t 61) (.c (.t (.bool false))))⟩ []), (.mk 35 false ⟨(some 63), (some ⟨47, true⟩), (.pick (.t 51) (.c (.t (.bool true))) (.t 62))⟩ []), (.mk 36 false ⟨(some 64), none, (.pick (.t 47) (.t 63) (.c (.t (.bool false))))⟩ []), (.mk 37 false ⟨(some 65), none, (.mv (.t 64))⟩ []), (.mk 38 false ⟨(some 66), (some ⟨65, true⟩), (.fieldAddr 3 (.t 5))⟩ []), (.mk 39 false ⟨(some 67), (some ⟨65, true⟩), (.load none (.t 66))⟩ []), (.mk 40 false ⟨(some 68), (some ⟨65, true⟩), (.fieldAddr 3 (.t 10))⟩ []), (.mk 41 false ⟨(some 69), (some ⟨65, true⟩), (.load none (.t 68))⟩ []), (.mk 42 false ⟨(some 70), (some ⟨65, true⟩), (.call (.c (.fn (.func 74) [])) [(.t 67), (.t 69)])⟩ []), (.mk 43 false ⟨(some 71), none, (.pick (.t 65) (.t 70) (.c (.t (.bool false))))⟩ [])]) (.cond (.t 71) (.ops [⟨(some 8), none, (.mv (.c (.t (.bool true))))⟩]) .skip)))) (.ops [⟨(some 22), none, (.mv (.t 9))⟩, ⟨(some 23), none, (.bin .add (.t 22) (.c (.t (.int .i64 1))))⟩, ⟨(some 9), none, (.mv (.t 23))⟩])))))) (.seq (.ops [⟨(some 72), none, (.mv (.t 8))⟩, ⟨(some 73), none, (.un .not (.t 72))⟩]) (.cond (.t 73) (.seq (.ops [⟨(some 74), none, (.fieldAddr 0 (.t 5))⟩, ⟨(some 75), none, (.load none (.t 74))⟩, ⟨(some 76), none, (.mv (.t 7))⟩, ⟨(some 77), none, (.indexAddr 1 (.t 75) (.t 76))⟩, ⟨(some 78), none, (.load none (.t 77))⟩, ⟨(some 6), none, (.mv (.t 78))⟩]) .ret) .skip))))) (.ops [⟨(some 16), none, (.mv (.t 7))⟩, ⟨(some 17), none, (.bin .add (.t 16) (.c (.t (.int .i64 1))))⟩, ⟨(some 7), none, (.mv (.t 17))⟩])))))) (.seq (.ops [⟨(some 6), none, (.mv (.c (.t (.int .i64 0))))⟩]) .ret)))
theorem k_spec_l4Lacks : comp Tryd.prog 79 (Tryd.f38.body.getD .skip) = some c_spec_l4Lacks := by kernel_rfl

theorem spec_l4Lacks (tm : List GateTeam) (ht : tm.length ≤ 1048576) (rules : List GateRule) (hu : GateRule.OkS rules) (r : GateRule) (hr : r.Ok)  (σ : Store) : ACalls Tryd.prog 38 [.t (tGateTeamS tm), .t (tGateRuleS rules), .agg (r.vs)] σ fun rr σ' => rr = .t (.int .i64 (lackOf tm rules r r.Verbs)) ∧ σ' = σ := by
  refine acalls_of Tryd.func38 (by decide +kernel) (code := Tryd.f38.body.getD .skip) (n := 79) (c := c_spec_l4Lacks) (rs := [(.tmp 6)]) rfl rfl k_spec_l4Lacks (by kernel_rfl) (by simp) (fun hσ => ?_)
  have hh : True := trivial
  have fin : ∀ {u : V} {τ : Store}, u = .t (.int .i64 (lackOf tm rules r r.Verbs)) → u.lt σ.length = true → retV σ.length (fun rr σ' => rr = .t (.int .i64 (lackOf tm rules r r.Verbs)) ∧ σ' = σ) (σ ++ τ) (some [u]) := fun h h2 => ret_same rfl hσ h2 ⟨h, rfl⟩
  have fin0 : ∀ {u : V}, u = .t (.int .i64 (lackOf tm rules r r.Verbs)) → retV σ.length (fun rr σ' => rr = .t (.int .i64 (lackOf tm rules r r.Verbs)) ∧ σ' = σ) σ (some [u]) := fun h => ret_same0 rfl ⟨h, rfl⟩
  have y1 := hu.1
  have y2 := hr.Verbs.1
  simp -implicitDefEqProofs only [c_spec_l4Lacks, GateRule.vs, tGateRuleS, List.length_map, S0, S1, S2, S3, S4, S5, S6, S7, S8, S9, S10, S11, S12, S13, S14, S15, S16, S17, opv, opvs, eget, env0, setD, lenStr, lenSl, isNilP, isNilS, putAt, if_true, if_false, reduceCtorEq, Nat.reduceLeDiff, Nat.reduceEqDiff, Nat.reduceSub, Nat.reduceMul, Nat.reduceAdd]
  refine loop_p [7, 0, 1, 5] [0, 1, 5] (fun k : Nat => [(7, .t (.int .i64 (k : Nat)))]) (fun k => k ≤ r.Verbs.length ∧ lackOf tm rules r (r.Verbs.drop k) = lackOf tm rules r r.Verbs) (fun k => r.Verbs.length - k) 0 (by simp) ⟨Nat.zero_le _, rfl⟩ rfl ?_
  rintro k ⟨hk, hall⟩
  simp -implicitDefEqProofs only [keep, List.length_map, S0, S1, S2, S3, S4, S5, S6, S7, S8, S9, S10, S11, S12, S13, S14, S15, S16, S17, opv, opvs, eget, env0, setD, lenStr, lenSl, isNilP, isNilS, putAt, if_true, if_false, reduceCtorEq, Nat.reduceLeDiff, Nat.reduceEqDiff, Nat.reduceSub, Nat.reduceMul, Nat.reduceAdd]
  refine cond_split (fun h1 => ?_) (fun h1 => ?_)
  · obtain ⟨x, hx, hlt⟩ := at_of h1
    have hd := drop_of hx
    have more := i64_succ (show k < 4611686018427387904 by omega)
    rw [hd] at hall
    simp -implicitDefEqProofs only [hx, nat_nn, Nat.zero_le, List.getElem?_map, Option.map_some, List.length_map, tInt, more, S0, S1, S2, S3, S4, S5, S6, S7, S8, S9, S10, S11, S12, S13, S14, S15, S16, S17, opv, opvs, eget, env0, setD, lenStr, lenSl, isNilP, isNilS, putAt, if_true, if_false, reduceCtorEq, Nat.reduceLeDiff, Nat.reduceEqDiff, Nat.reduceSub, Nat.reduceMul, Nat.reduceAdd]
    refine loop_p [8, 9, 0, 1, 5, 7] [0, 1, 5, 7] (fun j : Nat => [(8, .t (.bool (!((rules.take j).all (noW tm r x))))), (9, .t (.int .i64 (j : Nat)))]) (fun j => j ≤ rules.length) (fun j => rules.length - j) 0 (by simp) (Nat.zero_le _) rfl ?_
    rintro j hj
    simp -implicitDefEqProofs only [keep, List.length_map, S0, S1, S2, S3, S4, S5, S6, S7, S8, S9, S10, S11, S12, S13, S14, S15, S16, S17, opv, opvs, eget, env0, setD, lenStr, lenSl, isNilP, isNilS, putAt, if_true, if_false, reduceCtorEq, Nat.reduceLeDiff, Nat.reduceEqDiff, Nat.reduceSub, Nat.reduceMul, Nat.reduceAdd]
    refine cond_split (fun h3 => ?_) (fun h3 => ?_)
    · obtain ⟨y, hy, hlt2⟩ := at_of h3
      have hyo := hu.2 y (mem_at hy)
      have more2 := i64_succ (show j < 4611686018427387904 by omega)
      have hst : (rules.take (j + 1)).all (noW tm r x) = ((rules.take j).all (noW tm r x) && noW tm r x y) := by rw [take_of hy, List.all_append]; simp
      have w1 : widerP tm r x y = true → (!((rules.take (j + 1)).all (noW tm r x))) = true := fun h => by rw [hst]; simp [noW, h]
      have w2 : widerP tm r x y = false → (!((rules.take (j + 1)).all (noW tm r x))) = (!((rules.take j).all (noW tm r x))) := fun h => by rw [hst]; simp [noW, h]
      simp -implicitDefEqProofs only [hx, hy, nat_nn, Nat.zero_le, List.getElem?_map, Option.map_some, List.length_map, GateRule.ts, tInt, more2, S0, S1, S2, S3, S4, S5, S6, S7, S8, S9, S10, S11, S12, S13, S14, S15, S16, S17, opv, opvs, eget, env0, setD, lenStr, lenSl, isNilP, isNilS, putAt, if_true, if_false, reduceCtorEq, Nat.reduceLeDiff, Nat.reduceEqDiff, Nat.reduceSub, Nat.reduceMul, Nat.reduceAdd]
      have hh : True := trivial
      repeat' (first
        | ((with_reducible refine cond_known (fun h => ?_) (fun h => ?_)) <;> (replace hh := And.intro h hh; clear h; simp -implicitDefEqProofs only [hh, cond_t, cond_f, hx, hy, nat_nn, Nat.zero_le, List.getElem?_map, Option.map_some, List.length_map, GateRule.ts, tInt, more2, S0, S1, S2, S3, S4, S5, S6, S7, S8, S9, S10, S11, S12, S13, S14, S15, S16, S17, opv, opvs, eget, env0, setD, lenStr, lenSl, isNilP, isNilS, putAt, if_true, if_false, reduceCtorEq, Nat.reduceLeDiff, Nat.reduceEqDiff, Nat.reduceSub, Nat.reduceMul, Nat.reduceAdd]))
        | ((with_reducible refine call_pure (spec_l4Verb y hyo x _) ?_); simp -implicitDefEqProofs only [hh, cond_t, cond_f, hx, hy, nat_nn, Nat.zero_le, List.getElem?_map, Option.map_some, List.length_map, GateRule.ts, tInt, more2, S0, S1, S2, S3, S4, S5, S6, S7, S8, S9, S10, S11, S12, S13, S14, S15, S16, S17, opv, opvs, eget, env0, setD, lenStr, lenSl, isNilP, isNilS, putAt, if_true, if_false, reduceCtorEq, Nat.reduceLeDiff, Nat.reduceEqDiff, Nat.reduceSub, Nat.reduceMul, Nat.reduceAdd])
        | ((with_reducible refine call_pure (spec_GateUnder tm r.Team y.Team ht _) ?_); simp -implicitDefEqProofs only [hh, cond_t, cond_f, hx, hy, nat_nn, Nat.zero_le, List.getElem?_map, Option.map_some, List.length_map, GateRule.ts, tInt, more2, S0, S1, S2, S3, S4, S5, S6, S7, S8, S9, S10, S11, S12, S13, S14, S15, S16, S17, opv, opvs, eget, env0, setD, lenStr, lenSl, isNilP, isNilS, putAt, if_true, if_false, reduceCtorEq, Nat.reduceLeDiff, Nat.reduceEqDiff, Nat.reduceSub, Nat.reduceMul, Nat.reduceAdd])
        | ((with_reducible refine call_pure (spec_l4Begins r.Prefix y.Prefix _) ?_); simp -implicitDefEqProofs only [hh, cond_t, cond_f, hx, hy, nat_nn, Nat.zero_le, List.getElem?_map, Option.map_some, List.length_map, GateRule.ts, tInt, more2, S0, S1, S2, S3, S4, S5, S6, S7, S8, S9, S10, S11, S12, S13, S14, S15, S16, S17, opv, opvs, eget, env0, setD, lenStr, lenSl, isNilP, isNilS, putAt, if_true, if_false, reduceCtorEq, Nat.reduceLeDiff, Nat.reduceEqDiff, Nat.reduceSub, Nat.reduceMul, Nat.reduceAdd])
        | (first | exact lk_p0 (j + 1) (by simp) (by simp) (by omega) (by omega) (by rw [w1 (by (try simp only [Known] at hh); grind [widerP])]; rfl) | exact lk_p (j + 1) (by simp) (by simp) hσ rfl (by omega) (by omega) (by simp [ltE, keep, eget, V.lt]) (by rw [w1 (by (try simp only [Known] at hh); grind [widerP])]; rfl) | exact lk_pm (j + 1) (Nat.le_refl _) (by simp) hσ rfl rfl (by omega) (by omega) (by simp [ltE, keep, eget, V.lt]) (by rw [w1 (by (try simp only [Known] at hh); grind [widerP])]; rfl))
        | (first | exact lk_p0 (j + 1) (by simp) (by simp) (by omega) (by omega) (by rw [w2 (by (try simp only [Known] at hh); grind [widerP])]; rfl) | exact lk_p (j + 1) (by simp) (by simp) hσ rfl (by omega) (by omega) (by simp [ltE, keep, eget, V.lt]) (by rw [w2 (by (try simp only [Known] at hh); grind [widerP])]; rfl) | exact lk_pm (j + 1) (Nat.le_refl _) (by simp) hσ rfl rfl (by omega) (by omega) (by simp [ltE, keep, eget, V.lt]) (by rw [w2 (by (try simp only [Known] at hh); grind [widerP])]; rfl)))
    · have hjj := end_of h3 hj
      subst hjj
      simp -implicitDefEqProofs only [List.take_length, S0, S1, S2, S3, S4, S5, S6, S7, S8, S9, S10, S11, S12, S13, S14, S15, S16, S17, opv, opvs, eget, env0, setD, lenStr, lenSl, isNilP, isNilS, putAt, if_true, if_false, reduceCtorEq, Nat.reduceLeDiff, Nat.reduceEqDiff, Nat.reduceSub, Nat.reduceMul, Nat.reduceAdd]
      refine cond_split (fun h4 => ?_) (fun h4 => ?_)
      · have hf : rules.all (noW tm r x) = true := by simpa using h4
        simp -implicitDefEqProofs only [hx, nat_nn, Nat.zero_le, List.getElem?_map, Option.map_some, List.length_map, tInt, more, S0, S1, S2, S3, S4, S5, S6, S7, S8, S9, S10, S11, S12, S13, S14, S15, S16, S17, opv, opvs, eget, env0, setD, lenStr, lenSl, isNilP, isNilS, putAt, if_true, if_false, reduceCtorEq, Nat.reduceLeDiff, Nat.reduceEqDiff, Nat.reduceSub, Nat.reduceMul, Nat.reduceAdd]
        have hl : lackOf tm rules r r.Verbs = x := by rw [← hall, lackOf, if_pos hf]
        first | exact fin0 (by rw [hl]) | exact fin (by rw [hl]) rfl
      · have hf : ¬ rules.all (noW tm r x) = true := by simpa using h4
        simp -implicitDefEqProofs only [more, S0, S1, S2, S3, S4, S5, S6, S7, S8, S9, S10, S11, S12, S13, S14, S15, S16, S17, opv, opvs, eget, env0, setD, lenStr, lenSl, isNilP, isNilS, putAt, if_true, if_false, reduceCtorEq, Nat.reduceLeDiff, Nat.reduceEqDiff, Nat.reduceSub, Nat.reduceMul, Nat.reduceAdd]
        have hl : lackOf tm rules r (r.Verbs.drop (k + 1)) = lackOf tm rules r r.Verbs := by rw [← hall, lackOf, if_neg hf]
        first | exact lk_p0 (k + 1) (by simp) (by simp) (by omega) ⟨by omega, hl⟩ rfl | exact lk_p (k + 1) (by simp) (by simp) hσ rfl (by omega) ⟨by omega, hl⟩ (by simp [ltE, keep, eget, V.lt]) rfl | exact lk_pm (k + 1) (Nat.le_refl _) (by simp) hσ rfl rfl (by omega) ⟨by omega, hl⟩ (by simp [ltE, keep, eget, V.lt]) rfl
  · have hkk := end_of h1 hk
    rw [hkk, List.drop_length] at hall
    simp -implicitDefEqProofs only [S0, S1, S2, S3, S4, S5, S6, S7, S8, S9, S10, S11, S12, S13, S14, S15, S16, S17, opv, opvs, eget, env0, setD, lenStr, lenSl, isNilP, isNilS, putAt, if_true, if_false, reduceCtorEq, Nat.reduceLeDiff, Nat.reduceEqDiff, Nat.reduceSub, Nat.reduceMul, Nat.reduceAdd]
    first | exact fin0 (by rw [← hall]; rfl) | exact fin (by rw [← hall]; rfl) rfl

def c_impl_bare : C := (.seq (.ops [⟨(some 5), none, (.box (.t 2))⟩, ⟨(some 6), none, (.mv (.c (.t (.int .i64 0))))⟩]) (.seq .skip (.seq (.seq (.ops [⟨(some 11), none, (.fieldAddr 0 (.t 5))⟩, ⟨(some 12), none, (.load none (.t 11))⟩, ⟨(some 13), none, (.len false (.t 12))⟩, ⟨(some 14), none, (.mv (.c (.t (.int .i64 0))))⟩]) (.block 0 (.loop (.seq (.ops [⟨(some 15), none, (.bin .lss (.t 14) (.t 13))⟩]) (.seq (.cond (.t 15) .skip (.exit 0)) (.seq (.block 1 (.seq (.ops [⟨(some 16), none, (.indexAddr 1 (.t 12) (.t 14))⟩, ⟨(some 17), none, (.load none (.t 16))⟩, ⟨(some 8), none, (.mv (.t 17))⟩]) (.seq (.seq (.ops [⟨(some 18), none, (.mv (.t 1))⟩, ⟨(some 19), none, (.len false (.t 18))⟩, ⟨(some 20), none, (.mv (.c (.t (.int .i64 0))))⟩]) (.block 2 (.loop (.seq (.ops [⟨(some 21), none, (.bin .lss (.t 20) (.t 19))⟩]) (.seq (.cond (.t 21) .skip (.exit 2)) (.seq (.block 3 (.seq (.ops [⟨(some 22), none, (.indexAddr 4 (.t 18) (.t 20))⟩, ⟨(some 23), none, (.load (some 4) (.t 22))⟩, ⟨(some 10), none, (.new [.nils, (.t (.str [])), (.t (.str [])), (.t (.str []))])⟩, ⟨none, none, (.store 4 (.t 10) (.t 23))⟩]) (.seq (.ops [⟨(some 24), none, (.load (some 4) (.t 10))⟩, ⟨(some 25), none, (.mv (.t 0))⟩, ⟨(some 26), none, (.load (some 4) (.t 5))⟩, ⟨(some 27), none, (.mv (.t 8))⟩, ⟨(some 28), none, (.call (.c (.fn (.func 76) [])) [(.t 24), (.t 25), (.t 26), (.t 27)])⟩]) (.cond (.t 28) (.exit 1) .skip)))) (.ops [⟨(some 29), none, (.bin .add (.t 20) (.c (.t (.int .i64 1))))⟩, ⟨(some 20), none, (.mv (.t 29))⟩]))))))) (.seq (.ops [⟨(some 30), none, (.mv (.t 8))⟩, ⟨(some 6), none, (.mv (.t 30))⟩]) .ret)))) (.ops [⟨(some 31), none, (.bin .add (.t 14) (.c (.t (.int .i64 1))))⟩, ⟨(some 14), none, (.mv (.t 31))⟩]))))))) (.seq (.ops [⟨(some 6), none, (.mv (.c (.t (.int .i64 0))))⟩]) .ret))))
theorem k_impl_bare : comp Tryd.prog 32 (Tryd.f43.body.getD .skip) = some c_impl_bare := by kernel_rfl

theorem impl_bare (tm : List GateTeam) (ht : tm.length ≤ 1048576) (rules : List GateRule) (hu : GateRule.OkS rules) (r : GateRule) (hr : r.Ok) (hok : ∀ v ∈ r.Verbs, 0 ≤ v ∧ v < 16)  (σ : Store) : ACalls Tryd.prog 43 [.t (tGateTeamS tm), .t (tGateRuleS rules), .agg (r.vs)] σ fun rr σ' => rr = .t (.int .i64 (lackOf tm rules r r.Verbs)) ∧ σ' = σ := by
  refine acalls_of Tryd.func43 (by decide +kernel) (code := Tryd.f43.body.getD .skip) (n := 32) (c := c_impl_bare) (rs := [(.tmp 6)]) rfl rfl k_impl_bare (by kernel_rfl) (by simp) (fun hσ => ?_)
  have hh : True := trivial
  have fin : ∀ {u : V} {τ : Store}, u = .t (.int .i64 (lackOf tm rules r r.Verbs)) → u.lt σ.length = true → retV σ.length (fun rr σ' => rr = .t (.int .i64 (lackOf tm rules r r.Verbs)) ∧ σ' = σ) (σ ++ τ) (some [u]) := fun h h2 => ret_same rfl hσ h2 ⟨h, rfl⟩
  have fin0 : ∀ {u : V}, u = .t (.int .i64 (lackOf tm rules r r.Verbs)) → retV σ.length (fun rr σ' => rr = .t (.int .i64 (lackOf tm rules r r.Verbs)) ∧ σ' = σ) σ (some [u]) := fun h => ret_same0 rfl ⟨h, rfl⟩
  have y1 := hu.1
  have y2 := hr.Verbs.1
  simp -implicitDefEqProofs only [c_impl_bare, GateRule.vs, tGateRuleS, List.length_map, S0, S1, S2, S3, S4, S5, S6, S7, S8, S9, S10, S11, S12, S13, S14, S15, S16, S17, opv, opvs, eget, env0, setD, lenStr, lenSl, isNilP, isNilS, putAt, if_true, if_false, reduceCtorEq, Nat.reduceLeDiff, Nat.reduceEqDiff, Nat.reduceSub, Nat.reduceMul, Nat.reduceAdd]
  refine loop_p [14, 0, 1, 5, 12, 13] [0, 1, 5, 12, 13] (fun k : Nat => [(14, .t (.int .i64 (k : Nat)))]) (fun k => k ≤ r.Verbs.length ∧ lackOf tm rules r (r.Verbs.drop k) = lackOf tm rules r r.Verbs) (fun k => r.Verbs.length - k) 0 (by simp) ⟨Nat.zero_le _, rfl⟩ rfl ?_
  rintro k ⟨hk, hall⟩
  simp -implicitDefEqProofs only [keep, List.length_map, S0, S1, S2, S3, S4, S5, S6, S7, S8, S9, S10, S11, S12, S13, S14, S15, S16, S17, opv, opvs, eget, env0, setD, lenStr, lenSl, isNilP, isNilS, putAt, if_true, if_false, reduceCtorEq, Nat.reduceLeDiff, Nat.reduceEqDiff, Nat.reduceSub, Nat.reduceMul, Nat.reduceAdd]
  refine cond_split (fun h1 => ?_) (fun h1 => ?_)
  · obtain ⟨x, hx, hlt⟩ := at_of h1
    have hd := drop_of hx
    have more := i64_succ (show k < 4611686018427387904 by omega)
    obtain ⟨x0, x1⟩ := hok x (mem_at hx)
    rw [hd] at hall
    simp -implicitDefEqProofs only [hx, nat_nn, Nat.zero_le, List.getElem?_map, Option.map_some, List.length_map, tInt, more, S0, S1, S2, S3, S4, S5, S6, S7, S8, S9, S10, S11, S12, S13, S14, S15, S16, S17, opv, opvs, eget, env0, setD, lenStr, lenSl, isNilP, isNilS, putAt, if_true, if_false, reduceCtorEq, Nat.reduceLeDiff, Nat.reduceEqDiff, Nat.reduceSub, Nat.reduceMul, Nat.reduceAdd]
    refine loop_p [20, 0, 1, 5, 8, 12, 13, 14, 18, 19] [0, 1, 5, 8, 12, 13, 14, 18, 19] (fun j : Nat => [(20, .t (.int .i64 (j : Nat)))]) (fun j => j ≤ rules.length ∧ (rules.take j).all (noW tm r x) = true) (fun j => rules.length - j) 0 (by simp) ⟨Nat.zero_le _, rfl⟩ rfl ?_
    rintro j ⟨hj, hall2⟩
    simp -implicitDefEqProofs only [keep, List.length_map, S0, S1, S2, S3, S4, S5, S6, S7, S8, S9, S10, S11, S12, S13, S14, S15, S16, S17, opv, opvs, eget, env0, setD, lenStr, lenSl, isNilP, isNilS, putAt, if_true, if_false, reduceCtorEq, Nat.reduceLeDiff, Nat.reduceEqDiff, Nat.reduceSub, Nat.reduceMul, Nat.reduceAdd]
    refine cond_split (fun h3 => ?_) (fun h3 => ?_)
    · obtain ⟨y, hy, hlt2⟩ := at_of h3
      have hyo := hu.2 y (mem_at hy)
      have more2 := i64_succ (show j < 4611686018427387904 by omega)
      simp -implicitDefEqProofs only [hy, nat_nn, Nat.zero_le, List.getElem?_map, Option.map_some, List.length_map, GateRule.ts, more2, S0, S1, S2, S3, S4, S5, S6, S7, S8, S9, S10, S11, S12, S13, S14, S15, S16, S17, opv, opvs, eget, env0, setD, lenStr, lenSl, isNilP, isNilS, putAt, if_true, if_false, reduceCtorEq, Nat.reduceLeDiff, Nat.reduceEqDiff, Nat.reduceSub, Nat.reduceMul, Nat.reduceAdd]
      refine call_pure (_impl_GateRule__wider y hyo tm ht r x x0 x1 _) ?_
      simp -implicitDefEqProofs only [S0, S1, S2, S3, S4, S5, S6, S7, S8, S9, S10, S11, S12, S13, S14, S15, S16, S17, opv, opvs, eget, env0, setD, lenStr, lenSl, isNilP, isNilS, putAt, if_true, if_false, reduceCtorEq, Nat.reduceLeDiff, Nat.reduceEqDiff, Nat.reduceSub, Nat.reduceMul, Nat.reduceAdd]
      refine cond_split (fun h4 => ?_) (fun h4 => ?_)
      · have hf : ¬ rules.all (noW tm r x) = true := by
          rw [all_not hy (by simp [noW, h4])]; simp
        have hl : lackOf tm rules r (r.Verbs.drop (k + 1)) = lackOf tm rules r r.Verbs := by rw [← hall, lackOf, if_neg hf]
        simp -implicitDefEqProofs only [more, S0, S1, S2, S3, S4, S5, S6, S7, S8, S9, S10, S11, S12, S13, S14, S15, S16, S17, opv, opvs, eget, env0, setD, lenStr, lenSl, isNilP, isNilS, putAt, if_true, if_false, reduceCtorEq, Nat.reduceLeDiff, Nat.reduceEqDiff, Nat.reduceSub, Nat.reduceMul, Nat.reduceAdd]
        first | exact lk_p0 (k + 1) (by simp) (by simp) (by omega) ⟨by omega, hl⟩ rfl | exact lk_p (k + 1) (by simp) (by simp) hσ rfl (by omega) ⟨by omega, hl⟩ (by simp [ltE, keep, eget, V.lt]) rfl | exact lk_pm (k + 1) (Nat.le_refl _) (by simp) hσ rfl rfl (by omega) ⟨by omega, hl⟩ (by simp [ltE, keep, eget, V.lt]) rfl
      · simp -implicitDefEqProofs only [more2, S0, S1, S2, S3, S4, S5, S6, S7, S8, S9, S10, S11, S12, S13, S14, S15, S16, S17, opv, opvs, eget, env0, setD, lenStr, lenSl, isNilP, isNilS, putAt, if_true, if_false, reduceCtorEq, Nat.reduceLeDiff, Nat.reduceEqDiff, Nat.reduceSub, Nat.reduceMul, Nat.reduceAdd]
        first | exact lk_p0 (j + 1) (by simp) (by simp) (by omega) ⟨by omega, all_step hy hall2 (by simp [noW, h4])⟩ rfl | exact lk_p (j + 1) (by simp) (by simp) hσ rfl (by omega) ⟨by omega, all_step hy hall2 (by simp [noW, h4])⟩ (by simp [ltE, keep, eget, V.lt]) rfl | exact lk_pm (j + 1) (Nat.le_refl _) (by simp) hσ rfl rfl (by omega) ⟨by omega, all_step hy hall2 (by simp [noW, h4])⟩ (by simp [ltE, keep, eget, V.lt]) rfl
    · have hf : rules.all (noW tm r x) = true := all_len hall2 (end_of h3 hj)
      simp -implicitDefEqProofs only [S0, S1, S2, S3, S4, S5, S6, S7, S8, S9, S10, S11, S12, S13, S14, S15, S16, S17, opv, opvs, eget, env0, setD, lenStr, lenSl, isNilP, isNilS, putAt, if_true, if_false, reduceCtorEq, Nat.reduceLeDiff, Nat.reduceEqDiff, Nat.reduceSub, Nat.reduceMul, Nat.reduceAdd]
      have hl : lackOf tm rules r r.Verbs = x := by rw [← hall, lackOf, if_pos hf]
      first | exact fin0 (by rw [hl]) | exact fin (by rw [hl]) rfl
  · have hkk := end_of h1 hk
    rw [hkk, List.drop_length] at hall
    simp -implicitDefEqProofs only [S0, S1, S2, S3, S4, S5, S6, S7, S8, S9, S10, S11, S12, S13, S14, S15, S16, S17, opv, opvs, eget, env0, setD, lenStr, lenSl, isNilP, isNilS, putAt, if_true, if_false, reduceCtorEq, Nat.reduceLeDiff, Nat.reduceEqDiff, Nat.reduceSub, Nat.reduceMul, Nat.reduceAdd]
    first | exact fin0 (by rw [← hall]; rfl) | exact fin (by rw [← hall]; rfl) rfl

theorem verbs_16 {tm : List GateTeam} {rules : List GateRule} {r : GateRule} (h : allRules tm rules r = true) : ∀ v ∈ r.Verbs, 0 ≤ v ∧ v < 16 := by
  intro v hv
  obtain ⟨i, hi, rfl⟩ := List.getElem_of_mem hv
  have h1 : r.Verbs.zipIdx.all (verbP r.Verbs) = true := by grind [allRules, ruleOk]
  have h2 := List.all_eq_true.1 h1 (r.Verbs[i], i) (by rw [List.mem_zipIdx_iff_getElem?]; simp [hi])
  simp only [verbP, wi, Bool.and_eq_true, decide_eq_true_eq] at h2
  omega

def c_spec_GateCovers : C := (.seq (.ops [⟨(some 5), none, (.box (.t 2))⟩, ⟨(some 6), none, (.mv (.c (.t (.bool false))))⟩]) (.seq (.ops [⟨(some 7), none, (.mv (.t 0))⟩, ⟨(some 8), none, (.mv (.t 1))⟩, ⟨(some 9), none, (.load (some 4) (.t 5))⟩, ⟨(some 10), none, (.call (.c (.fn (.func 37) [])) [(.t 7), (.t 8), (.t 9)])⟩, ⟨(some 11), none, (.mv (.t 10))⟩, ⟨(some 12), (some ⟨11, true⟩), (.mv (.t 0))⟩, ⟨(some 13), (some ⟨11, true⟩), (.mv (.t 1))⟩, ⟨(some 14), (some ⟨11, true⟩), (.load (some 4) (.t 5))⟩, ⟨(some 15), (some ⟨11, true⟩), (.call (.c (.fn (.func 38) [])) [(.t 12), (.t 13), (.t 14)])⟩, ⟨(some 16), (some ⟨11, true⟩), (.bin .eql (.t 15) (.c (.t (.int .i64 0))))⟩, ⟨(some 17), none, (.pick (.t 11) (.t 16) (.c (.t (.bool false))))⟩, ⟨(some 6), none, (.mv (.t 17))⟩]) .ret))
theorem k_spec_GateCovers : comp Tryd.prog 18 (Tryd.f31.body.getD .skip) = some c_spec_GateCovers := by kernel_rfl

theorem spec_GateCovers (tm : List GateTeam) (ht : GateTeam.OkS tm) (rules : List GateRule) (hu : GateRule.OkS rules) (r : GateRule) (hr : r.Ok)  (σ : Store) : ACalls Tryd.prog 31 [.t (tGateTeamS tm), .t (tGateRuleS rules), .agg (r.vs)] σ fun rr σ' => rr = .t (.bool (coversB tm rules r)) ∧ σ' = σ := by
  refine acalls_of Tryd.func31 (by decide +kernel) (code := Tryd.f31.body.getD .skip) (n := 18) (c := c_spec_GateCovers) (rs := [(.tmp 6)]) rfl rfl k_spec_GateCovers (by kernel_rfl) (by simp) (fun hσ => ?_)
  have hh : True := trivial
  have fin : ∀ {u : V} {τ : Store}, u = .t (.bool (coversB tm rules r)) → u.lt σ.length = true → retV σ.length (fun rr σ' => rr = .t (.bool (coversB tm rules r)) ∧ σ' = σ) (σ ++ τ) (some [u]) := fun h h2 => ret_same rfl hσ h2 ⟨h, rfl⟩
  have fin0 : ∀ {u : V}, u = .t (.bool (coversB tm rules r)) → retV σ.length (fun rr σ' => rr = .t (.bool (coversB tm rules r)) ∧ σ' = σ) σ (some [u]) := fun h => ret_same0 rfl ⟨h, rfl⟩
  simp -implicitDefEqProofs only [c_spec_GateCovers, GateRule.vs, S0, S1, S2, S3, S4, S5, S6, S7, S8, S9, S10, S11, S12, S13, S14, S15, S16, S17, opv, opvs, eget, env0, setD, lenStr, lenSl, isNilP, isNilS, putAt, if_true, if_false, reduceCtorEq, Nat.reduceLeDiff, Nat.reduceEqDiff, Nat.reduceSub, Nat.reduceMul, Nat.reduceAdd]
  refine call_pure (spec_l4AllOk tm ht rules hu r hr _) ?_
  simp -implicitDefEqProofs only [S0, S1, S2, S3, S4, S5, S6, S7, S8, S9, S10, S11, S12, S13, S14, S15, S16, S17, opv, opvs, eget, env0, setD, lenStr, lenSl, isNilP, isNilS, putAt, if_true, if_false, reduceCtorEq, Nat.reduceLeDiff, Nat.reduceEqDiff, Nat.reduceSub, Nat.reduceMul, Nat.reduceAdd]
  refine cond_split (fun h => ?_) (fun h => ?_)
  · have hv : allRules tm rules r = true := by simpa using h
    simp -implicitDefEqProofs only [hv, cond_t, cond_f, S0, S1, S2, S3, S4, S5, S6, S7, S8, S9, S10, S11, S12, S13, S14, S15, S16, S17, opv, opvs, eget, env0, setD, lenStr, lenSl, isNilP, isNilS, putAt, if_true, if_false, reduceCtorEq, Nat.reduceLeDiff, Nat.reduceEqDiff, Nat.reduceSub, Nat.reduceMul, Nat.reduceAdd]
    refine call_pure (spec_l4Lacks tm ht.1 rules hu r hr _) ?_
    simp -implicitDefEqProofs only [hv, cond_t, cond_f, S0, S1, S2, S3, S4, S5, S6, S7, S8, S9, S10, S11, S12, S13, S14, S15, S16, S17, opv, opvs, eget, env0, setD, lenStr, lenSl, isNilP, isNilS, putAt, if_true, if_false, reduceCtorEq, Nat.reduceLeDiff, Nat.reduceEqDiff, Nat.reduceSub, Nat.reduceMul, Nat.reduceAdd]
    first | exact fin0 (by simp [coversB, hv]) | exact fin (by simp [coversB, hv]) rfl
  · have hv : allRules tm rules r = false := by simpa using h
    simp -implicitDefEqProofs only [hv, cond_t, cond_f, S0, S1, S2, S3, S4, S5, S6, S7, S8, S9, S10, S11, S12, S13, S14, S15, S16, S17, opv, opvs, eget, env0, setD, lenStr, lenSl, isNilP, isNilS, putAt, if_true, if_false, reduceCtorEq, Nat.reduceLeDiff, Nat.reduceEqDiff, Nat.reduceSub, Nat.reduceMul, Nat.reduceAdd]
    first | exact fin0 (by simp [coversB, hv]) | exact fin (by simp [coversB, hv]) rfl

def c_impl_GateCovers : C := (.seq (.ops [⟨(some 5), none, (.box (.t 2))⟩, ⟨(some 6), none, (.mv (.c (.t (.bool false))))⟩]) (.seq (.ops [⟨(some 7), none, (.mv (.t 0))⟩, ⟨(some 8), none, (.mv (.t 1))⟩, ⟨(some 9), none, (.load (some 4) (.t 5))⟩, ⟨(some 10), none, (.call (.c (.fn (.func 42) [])) [(.t 7), (.t 8), (.t 9)])⟩, ⟨(some 11), none, (.mv (.t 10))⟩, ⟨(some 12), (some ⟨11, true⟩), (.mv (.t 0))⟩, ⟨(some 13), (some ⟨11, true⟩), (.mv (.t 1))⟩, ⟨(some 14), (some ⟨11, true⟩), (.load (some 4) (.t 5))⟩, ⟨(some 15), (some ⟨11, true⟩), (.call (.c (.fn (.func 43) [])) [(.t 12), (.t 13), (.t 14)])⟩, ⟨(some 16), (some ⟨11, true⟩), (.bin .eql (.t 15) (.c (.t (.int .i64 0))))⟩, ⟨(some 17), none, (.pick (.t 11) (.t 16) (.c (.t (.bool false))))⟩, ⟨(some 6), none, (.mv (.t 17))⟩]) .ret))
theorem k_impl_GateCovers : comp Tryd.prog 18 (Tryd.f30.body.getD .skip) = some c_impl_GateCovers := by kernel_rfl

theorem impl_GateCovers (tm : List GateTeam) (ht : GateTeam.OkS tm) (rules : List GateRule) (hu : GateRule.OkS rules) (r : GateRule) (hr : r.Ok)  (σ : Store) : ACalls Tryd.prog 30 [.t (tGateTeamS tm), .t (tGateRuleS rules), .agg (r.vs)] σ fun rr σ' => rr = .t (.bool (coversB tm rules r)) ∧ σ' = σ := by
  refine acalls_of Tryd.func30 (by decide +kernel) (code := Tryd.f30.body.getD .skip) (n := 18) (c := c_impl_GateCovers) (rs := [(.tmp 6)]) rfl rfl k_impl_GateCovers (by kernel_rfl) (by simp) (fun hσ => ?_)
  have hh : True := trivial
  have fin : ∀ {u : V} {τ : Store}, u = .t (.bool (coversB tm rules r)) → u.lt σ.length = true → retV σ.length (fun rr σ' => rr = .t (.bool (coversB tm rules r)) ∧ σ' = σ) (σ ++ τ) (some [u]) := fun h h2 => ret_same rfl hσ h2 ⟨h, rfl⟩
  have fin0 : ∀ {u : V}, u = .t (.bool (coversB tm rules r)) → retV σ.length (fun rr σ' => rr = .t (.bool (coversB tm rules r)) ∧ σ' = σ) σ (some [u]) := fun h => ret_same0 rfl ⟨h, rfl⟩
  simp -implicitDefEqProofs only [c_impl_GateCovers, GateRule.vs, S0, S1, S2, S3, S4, S5, S6, S7, S8, S9, S10, S11, S12, S13, S14, S15, S16, S17, opv, opvs, eget, env0, setD, lenStr, lenSl, isNilP, isNilS, putAt, if_true, if_false, reduceCtorEq, Nat.reduceLeDiff, Nat.reduceEqDiff, Nat.reduceSub, Nat.reduceMul, Nat.reduceAdd]
  refine call_pure (impl_rulesOk tm ht rules hu r hr _) ?_
  simp -implicitDefEqProofs only [S0, S1, S2, S3, S4, S5, S6, S7, S8, S9, S10, S11, S12, S13, S14, S15, S16, S17, opv, opvs, eget, env0, setD, lenStr, lenSl, isNilP, isNilS, putAt, if_true, if_false, reduceCtorEq, Nat.reduceLeDiff, Nat.reduceEqDiff, Nat.reduceSub, Nat.reduceMul, Nat.reduceAdd]
  refine cond_split (fun h => ?_) (fun h => ?_)
  · have hv : allRules tm rules r = true := by simpa using h
    simp -implicitDefEqProofs only [hv, cond_t, cond_f, S0, S1, S2, S3, S4, S5, S6, S7, S8, S9, S10, S11, S12, S13, S14, S15, S16, S17, opv, opvs, eget, env0, setD, lenStr, lenSl, isNilP, isNilS, putAt, if_true, if_false, reduceCtorEq, Nat.reduceLeDiff, Nat.reduceEqDiff, Nat.reduceSub, Nat.reduceMul, Nat.reduceAdd]
    refine call_pure (impl_bare tm ht.1 rules hu r hr (verbs_16 (rules := rules) (tm := tm) hv) _) ?_
    simp -implicitDefEqProofs only [hv, cond_t, cond_f, S0, S1, S2, S3, S4, S5, S6, S7, S8, S9, S10, S11, S12, S13, S14, S15, S16, S17, opv, opvs, eget, env0, setD, lenStr, lenSl, isNilP, isNilS, putAt, if_true, if_false, reduceCtorEq, Nat.reduceLeDiff, Nat.reduceEqDiff, Nat.reduceSub, Nat.reduceMul, Nat.reduceAdd]
    first | exact fin0 (by simp [coversB, hv]) | exact fin (by simp [coversB, hv]) rfl
  · have hv : allRules tm rules r = false := by simpa using h
    simp -implicitDefEqProofs only [hv, cond_t, cond_f, S0, S1, S2, S3, S4, S5, S6, S7, S8, S9, S10, S11, S12, S13, S14, S15, S16, S17, opv, opvs, eget, env0, setD, lenStr, lenSl, isNilP, isNilS, putAt, if_true, if_false, reduceCtorEq, Nat.reduceLeDiff, Nat.reduceEqDiff, Nat.reduceSub, Nat.reduceMul, Nat.reduceAdd]
    first | exact fin0 (by simp [coversB, hv]) | exact fin (by simp [coversB, hv]) rfl

end Go.Proofs.YtcjchimenfadkaaDoor.W
