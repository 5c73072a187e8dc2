/- The program's search for a row. Conditions: none. -/
/- The program's row of fields. Conditions: none. -/
import Derived.Test.YtcjchimenfadkaaGateMnd3
import Derived.Test.YtcjchimenfadkaaAb4
set_option linter.unusedSimpArgs false
set_option linter.unusedVariables false
set_option linter.defProp false

section
open Go Go.Ab
set_option maxHeartbeats 2000000
namespace Go.Proofs.Ytcjchimenfadkaa.W
abbrev κN : List UInt8 → V := fun s => .t (.str s)
def whites (names : List Nm) (st : Sf) : Nat := names.countP fun y => decide (st y ≠ 1 ∧ st y ≠ 2)
theorem whites_set {st : Sf} {x : Nm} {v : Nat} (hv : v = 1 ∨ v = 2) : ∀ names : List Nm, whites names (setS st x v) ≤ whites names st
  | [] => Nat.le_refl _
  | y :: names => by
    have ih := whites_set (st := st) (x := x) hv names
    simp only [whites, List.countP_cons, setS] at *
    by_cases e : y = x
    · subst e
      have : ¬ (v ≠ 1 ∧ v ≠ 2) := by omega
      have t' : decide (v ≠ 1 ∧ v ≠ 2) = false := decide_eq_false this
      simp only [if_true, t', Bool.false_eq_true, if_false]; omega
    · simp only [if_neg e]; omega
theorem whites_lt {st : Sf} {x : Nm} {v : Nat} (hv : v = 1 ∨ v = 2) (h0 : st x ≠ 1 ∧ st x ≠ 2) : ∀ {names : List Nm}, x ∈ names → whites names (setS st x v) + 1 ≤ whites names st
  | [], h => by cases h
  | y :: names, h => by
    have ih0 := whites_set (st := st) (x := x) hv names
    by_cases e : y = x
    · subst e
      simp only [whites, List.countP_cons, setS] at *
      have : ¬ (v ≠ 1 ∧ v ≠ 2) := by omega
      have h0' : decide (st y ≠ 1 ∧ st y ≠ 2) = true := decide_eq_true h0
      have t' : decide (v ≠ 1 ∧ v ≠ 2) = false := decide_eq_false this
      simp only [if_true, t', Bool.false_eq_true, if_false, h0']; omega
    · have hm : x ∈ names := by
        rcases List.mem_cons.1 h with h | h
        · exact absurd h.symm e
        · exact h
      have ih := whites_lt (st := st) hv h0 hm
      simp only [whites, List.countP_cons, setS] at *
      simp only [if_neg e]; omega
theorem dfsL_app {w : Sf → Nm → Bool × Sf} {y : Nm} : ∀ {a : List Nm} {s : Sf}, (dfsL w a s).1 = true → dfsL w (a ++ [y]) s = w (dfsL w a s).2 y
  | [], s, _ => by
    simp only [List.nil_append, dfsL]
    split
    · rename_i h; exact Prod.ext h.symm rfl
    · rename_i h; exact Prod.ext (by simpa using h) rfl
  | z :: a, s, h => by
    rw [dfsL] at h
    split at h
    · rename_i h1
      rw [List.cons_append, dfsL, if_pos h1, dfsL, if_pos h1]
      exact dfsL_app h
    · cases h
theorem dfsL_fail {w : Sf → Nm → Bool × Sf} : ∀ {a b : List Nm} {s : Sf}, (dfsL w a s).1 = false → (dfsL w (a ++ b) s).1 = false
  | [], _, s, h => by cases h
  | z :: a, b, s, h => by
    rw [dfsL] at h
    rw [List.cons_append, dfsL]
    split at h
    · rename_i h1
      rw [if_pos h1]
      exact dfsL_fail h
    · rename_i h1
      rw [if_neg h1]
structure WS (σ0 : Store) (rv wv : V) (names : List Nm) (N : Nat) (st : Sf) (s : Store) : Prop where
  le : σ0.length + 5 ≤ s.length
  kp : Kp σ0 s
  rd : s[σ0.length]? = some (.box [rv])
  ma : ∃ c es f, s[σ0.length + 1]? = some (.map c es) ∧ MapIs κN c es f ∧ ∀ p, (f p).getD (.t (.int .i64 0)) = .t (.int .i64 ((st p : Nat) : Int))
  mb : s[σ0.length + 2]? = some (.box [.map (σ0.length + 1)])
  ou : ∃ rows u is, s[σ0.length + 3]? = some (.box [u]) ∧ Own s (.lst 1 rows) u is ∧ Wi is (σ0.length + 5) s.length ∧ rows.length + whites names st ≤ N
  wk : s[σ0.length + 4]? = some (.box [wv])
theorem WS.put {σ0 : Store} {rv wv : V} {names : List Nm} {N N' : Nat} {st : Sf} {s : Store} (h : WS σ0 rv wv names N st s) {c : Nat} {es : List ME} {f : List UInt8 → Option V} (h1 : s[σ0.length + 1]? = some (.map c es)) (h2 : MapIs κN c es f) (h3 : ∀ p, (f p).getD (.t (.int .i64 0)) = .t (.int .i64 ((st p : Nat) : Int))) (x : Nm) (v : Nat) (hN : whites names (setS st x v) + N ≤ whites names st + N') :
    WS σ0 rv wv names N' (setS st x v) (s.set (σ0.length + 1) (.map (clkM (κN x) c es) (putM (κN x) (.t (.int .i64 ((v : Nat) : Int))) c es))) := by
  have hl := h.le
  have ne : ∀ {i : Nat} {o : Go.Ab.Obj}, i ≠ σ0.length + 1 → (s.set (σ0.length + 1) o)[i]? = s[i]? := fun hi => List.getElem?_set_ne (by omega)
  refine ⟨by rw [List.length_set]; exact hl, fun j hj => by rw [ne (by omega)]; exact h.kp j hj, by rw [ne (by omega)]; exact h.rd, ?_, by rw [ne (by omega)]; exact h.mb, ?_, by rw [ne (by omega)]; exact h.wk⟩
  · refine ⟨_, _, _, by rw [List.getElem?_set_self (by omega)], h2.put keyOf_str x (.t (.int .i64 ((v : Nat) : Int))), fun p => ?_⟩
    rw [updF, setS]
    by_cases e : p = x
    · simp [e]
    · simp only [if_neg e]; exact h3 p
  · obtain ⟨rows, u, is, o1, o2, o3, o4⟩ := h.ou
    exact ⟨rows, u, is, by rw [ne (by omega)]; exact o1, o2.frame fun i hi => ne (by have := (o3.2 i hi).1; omega), by rw [List.length_set]; exact o3, by omega⟩
theorem WS.mono {σ0 : Store} {rv wv : V} {names : List Nm} {N N' : Nat} {st : Sf} {s : Store} (h : WS σ0 rv wv names N st s) (hN : N ≤ N') : WS σ0 rv wv names N' st s := by
  obtain ⟨a, b, c, d, e, ⟨rows, u, is, o1, o2, o3, o4⟩, g⟩ := h
  exact ⟨a, b, c, d, e, ⟨rows, u, is, o1, o2, o3, by omega⟩, g⟩
/-- The row grows. -/
theorem WS.app {σ0 : Store} {rv wv : V} {names : List Nm} {N : Nat} {st : Sf} {s : Store} (h : WS σ0 rv wv names N st s) (hN : N ≤ 1000) {rows : List (List T)} {u : V} {is : List Nat} (o1 : s[σ0.length + 3]? = some (.box [u])) (o2 : Own s (.lst 1 rows) u is) (o3 : Wi is (σ0.length + 5) s.length) (o4 : rows.length + whites names st ≤ N) (x : Nm) {K : Tok → V → Store → Prop}
    (hk : ∀ v' s', s.length ≤ s'.length → s'[σ0.length + 3]? = some (.box [u]) → WS σ0 rv wv names (N + 1) st (s'.set (σ0.length + 3) (.box [v'])) → one v' = true → K .go v' s') : evAppend 1 16 s [[.t (.str x)]] u K := by
  have hl := h.le
  have hof : OFl (s.take (σ0.length + 5)) 1 rows u s is := by
    have e : (s.take (σ0.length + 5)).length = σ0.length + 5 := by rw [List.length_take]; omega
    refine ⟨by omega, fun j hj => ?_, o2, by rw [e]; exact o3⟩
    have hj2 : j < σ0.length + 5 := by omega
    rw [List.getElem?_take_of_lt hj2]
  refine hof.app (r := [.str x]) (by simp [scalar]) (by simp only [maxBy]; omega) (by omega) fun v' s' is' hle hof' => ?_
  have e : (s.take (σ0.length + 5)).length = σ0.length + 5 := by rw [List.length_take]; omega
  have kp5 : ∀ j, j < σ0.length + 5 → s'[j]? = s[j]? := fun j hj => by
    rw [hof'.kp j (by omega), List.getElem?_take_of_lt hj]
  have ne : ∀ {i : Nat} {o : Go.Ab.Obj}, i ≠ σ0.length + 3 → (s'.set (σ0.length + 3) o)[i]? = s'[i]? := fun hi => List.getElem?_set_ne (by omega)
  refine hk v' s' hle (by rw [kp5 _ (by omega)]; exact o1) ?_ hof'.one
  obtain ⟨c, es, f, m1, m2, m3⟩ := h.ma
  have w' := hof'.wi
  rw [e] at w'
  refine ⟨by rw [List.length_set]; omega, fun j hj => by rw [ne (by omega), kp5 _ (by omega)]; exact h.kp j hj, by rw [ne (by omega), kp5 _ (by omega)]; exact h.rd, ⟨c, es, f, by rw [ne (by omega), kp5 _ (by omega)]; exact m1, m2, m3⟩, by rw [ne (by omega), kp5 _ (by omega)]; exact h.mb, ?_, by rw [ne (by omega), kp5 _ (by omega)]; exact h.wk⟩
  exact ⟨rows ++ [[.str x]], v', is', by rw [List.getElem?_set_self (by omega)], hof'.own.frame fun i hi => ne (by have := (w'.2 i hi).1; omega), by rw [List.length_set]; exact w', by rw [List.length_append, List.length_singleton]; omega⟩
theorem call_pure2 {P : Program} {f : FuncId} {a c d : V} {σ : Store} {u : V} {K : Tok → V → Store → Prop} (h : ACalls P f [a, c, d] σ fun r σ' => r = u ∧ σ' = σ) (hk : K .go u σ) : callV P σ (some (.fn (.func f) [c, d])) (some [a]) K :=
  .inl ⟨_, h, by rintro r σ' ⟨rfl, rfl⟩; exact hk⟩
structure Gd where
  k : Nat
  s : Store

abbrev rvOf (bm bs : Nat) : V := .fn (.func 41) [.ptr bm 0, .ptr bs 0]
abbrev wvOf (σ0 : Store) : V := .fn (.func 52) [.ptr (σ0.length + 2) 0, .ptr σ0.length 0, .ptr (σ0.length + 4) 0, .ptr (σ0.length + 3) 0]
def c_impl_row_string__1 : C := (.seq (.ops [⟨(some 6), none, (.mv (.c (.t (.bool false))))⟩]) (.seq (.seq (.ops [⟨(some 9), none, (.load none (.t 1))⟩, ⟨(some 10), none, (.mv (.t 0))⟩, ⟨(some 11), none, (.look (.one .str) false (.t (.int .i64 0)) (.t 9) (.t 10))⟩]) (.block 0 (.seq (.ops [⟨(some 13), none, (.bin .eql (.t 11) (.c (.t (.int .i64 1))))⟩, ⟨(some 12), none, (.mv (.t 13))⟩]) (.cond (.t 12) (.seq (.ops [⟨(some 6), none, (.mv (.c (.t (.bool false))))⟩]) .ret) (.seq (.ops [⟨(some 15), none, (.bin .eql (.t 11) (.c (.t (.int .i64 2))))⟩, ⟨(some 14), none, (.mv (.t 15))⟩]) (.cond (.t 14) (.seq (.ops [⟨(some 6), none, (.mv (.c (.t (.bool true))))⟩]) .ret) .skip)))))) (.seq (.ops [⟨(some 16), none, (.load none (.t 1))⟩, ⟨(some 17), none, (.mv (.t 0))⟩, ⟨none, none, (.mapUp (.one .str) (.t 16) (.t 17) (.c (.t (.int .i64 1))))⟩]) (.seq (.seq (.ops [⟨(some 18), none, (.load none (.t 2))⟩, ⟨(some 19), none, (.mv (.t 0))⟩, ⟨(some 20), none, (.call (.t 18) [(.t 19)])⟩, ⟨(some 21), none, (.len false (.t 20))⟩, ⟨(some 22), none, (.mv (.c (.t (.int .i64 0))))⟩]) (.block 1 (.loop (.seq (.ops [⟨(some 23), none, (.bin .lss (.t 22) (.t 21))⟩]) (.seq (.cond (.t 23) .skip (.exit 1)) (.seq (.block 2 (.seq (.ops [⟨(some 24), none, (.indexAddr 1 (.t 20) (.t 22))⟩, ⟨(some 25), none, (.load none (.t 24))⟩, ⟨(some 8), none, (.mv (.t 25))⟩]) (.seq (.ops [⟨(some 26), none, (.load none (.t 3))⟩, ⟨(some 27), none, (.mv (.t 8))⟩, ⟨(some 28), none, (.call (.t 26) [(.t 27)])⟩, ⟨(some 29), none, (.un .not (.t 28))⟩]) (.cond (.t 29) (.seq (.ops [⟨(some 6), none, (.mv (.c (.t (.bool false))))⟩]) .ret) .skip)))) (.ops [⟨(some 30), none, (.bin .add (.t 22) (.c (.t (.int .i64 1))))⟩, ⟨(some 22), none, (.mv (.t 30))⟩]))))))) (.seq (.ops [⟨(some 31), none, (.load none (.t 1))⟩, ⟨(some 32), none, (.mv (.t 0))⟩, ⟨none, none, (.mapUp (.one .str) (.t 31) (.t 32) (.c (.t (.int .i64 2))))⟩]) (.seq (.ops [⟨(some 33), none, (.load none (.t 4))⟩, ⟨(some 34), none, (.mv (.t 0))⟩, ⟨(some 35), none, (.lit none 1 1 [(.t (.str []))] [⟨0, (.t 34)⟩])⟩, ⟨(some 36), none, (.append 1 16 (.t 33) (.t 35))⟩, ⟨none, none, (.store 1 (.t 4) (.t 36))⟩]) (.seq (.ops [⟨(some 6), none, (.mv (.c (.t (.bool true))))⟩]) .ret)))))))
theorem k_impl_row_string__1 : comp Try.prog 37 (Try.f52.body.getD .skip) = some c_impl_row_string__1 := by kernel_rfl

set_option maxHeartbeats 8000000 in
theorem impl_walk (σ0 : Store) (bm bs : Nat) (names : List Nm) (rds : Nm → List Nm) (hrds : ∀ s x, Kp σ0 s → ACalls Try.prog 41 [.t (.str x), .ptr bm 0, .ptr bs 0] s fun r s' => r = .t (.lst 1 ((rds x).map tStr)) ∧ s' = s) (hcl : ∀ x ∈ names, ∀ y ∈ rds x, y ∈ names) (hrl : ∀ x, (rds x).length ≤ 24) :
    ∀ (n N : Nat) (st : Sf) (σ : Store) (x : Nm), WS σ0 (rvOf bm bs) (wvOf σ0) names N st σ → N < n → N ≤ 1000 → x ∈ names → ACalls Try.prog 52 [.t (.str x), .ptr (σ0.length + 2) 0, .ptr σ0.length 0, .ptr (σ0.length + 4) 0, .ptr (σ0.length + 3) 0] σ fun r s' => r = .t (.bool (dfs rds n st x).1) ∧ σ.length ≤ s'.length ∧ Kp σ0 s' ∧ ((dfs rds n st x).1 = true → WS σ0 (rvOf bm bs) (wvOf σ0) names N (dfs rds n st x).2 s') := by
  intro n
  induction n with
  | zero => intro N st σ x _ h; omega
  | succ n ih =>
  intro N st σ x hw hNn hN hx
  refine acalls_of Try.func52 (by decide +kernel) (code := Try.f52.body.getD .skip) (n := 37) (c := c_impl_row_string__1) (rs := [(.tmp 6)]) rfl rfl k_impl_row_string__1 (by kernel_rfl) (by simp) (fun hσ => ?_)
  obtain ⟨c, es, f, m1, m2, m3⟩ := hw.ma
  have hkeys := m2.keys (kd := .one .str) (fun a => rfl)
  have hlook := m2.look (.t (.int .i64 0)) x
  rw [m3] at hlook
  have fin1 : ∀ {b : Bool}, b = (dfs rds (n + 1) st x).1 → (b = true → (dfs rds (n + 1) st x).2 = st) → retV σ.length (fun r s' => r = .t (.bool (dfs rds (n + 1) st x).1) ∧ σ.length ≤ s'.length ∧ Kp σ0 s' ∧ ((dfs rds (n + 1) st x).1 = true → WS σ0 (rvOf bm bs) (wvOf σ0) names N (dfs rds (n + 1) st x).2 s')) σ (some [.t (.bool b)]) := fun hb h2 => fin_keep (Nat.le_refl _) ⟨by rw [hb]; rfl, Nat.le_refl _, hw.kp, fun h => by rw [h2 (hb.trans h)]; exact hw⟩
  have mb := hw.mb
  simp -implicitDefEqProofs only [c_impl_row_string__1, mb, m1, hkeys, hlook, S0, S1, S2, S3, S4, S5, S6, S7, S8, S9, S10, S11, S12, S13, S14, S15, S16, S17, opv, opvs, eget, env0, setD, lenStr, lenSl, isNilP, isNilS, putAt, if_true, if_false, reduceCtorEq, Nat.reduceLeDiff, Nat.reduceEqDiff, Nat.reduceSub, Nat.reduceMul, Nat.reduceAdd]
  refine cond_split (fun h => ?_) (fun h => ?_)
  · have e1 : st x = 1 := by simp at h; omega
    simp -implicitDefEqProofs only [S0, S1, S2, S3, S4, S5, S6, S7, S8, S9, S10, S11, S12, S13, S14, S15, S16, S17, opv, opvs, eget, env0, setD, lenStr, lenSl, isNilP, isNilS, putAt, if_true, if_false, reduceCtorEq, Nat.reduceLeDiff, Nat.reduceEqDiff, Nat.reduceSub, Nat.reduceMul, Nat.reduceAdd]
    exact fin1 (by rw [dfs, if_pos e1]) (fun h => by cases h)
  have n1 : st x ≠ 1 := by simp at h; omega
  clear h
  simp -implicitDefEqProofs only [S0, S1, S2, S3, S4, S5, S6, S7, S8, S9, S10, S11, S12, S13, S14, S15, S16, S17, opv, opvs, eget, env0, setD, lenStr, lenSl, isNilP, isNilS, putAt, if_true, if_false, reduceCtorEq, Nat.reduceLeDiff, Nat.reduceEqDiff, Nat.reduceSub, Nat.reduceMul, Nat.reduceAdd]
  refine cond_split (fun h => ?_) (fun h => ?_)
  · have e2 : st x = 2 := by simp at h; omega
    simp -implicitDefEqProofs only [S0, S1, S2, S3, S4, S5, S6, S7, S8, S9, S10, S11, S12, S13, S14, S15, S16, S17, opv, opvs, eget, env0, setD, lenStr, lenSl, isNilP, isNilS, putAt, if_true, if_false, reduceCtorEq, Nat.reduceLeDiff, Nat.reduceEqDiff, Nat.reduceSub, Nat.reduceMul, Nat.reduceAdd]
    exact fin1 (by rw [dfs, if_neg n1, if_pos e2]) (fun _ => by rw [dfs, if_neg n1, if_pos e2])
  have n2 : st x ≠ 2 := by simp at h; omega
  clear h
  simp -implicitDefEqProofs only [mb, m1, hkeys, S0, S1, S2, S3, S4, S5, S6, S7, S8, S9, S10, S11, S12, S13, S14, S15, S16, S17, opv, opvs, eget, env0, setD, lenStr, lenSl, isNilP, isNilS, putAt, if_true, if_false, reduceCtorEq, Nat.reduceLeDiff, Nat.reduceEqDiff, Nat.reduceSub, Nat.reduceMul, Nat.reduceAdd]
  have hk0 : KD.ok (.one .str) (κN x) = true := rfl
  have wg := whites_lt (v := 1) (.inl rfl) ⟨n1, n2⟩ hx
  have hN1 : 1 ≤ N := by obtain ⟨_, _, _, _, _, _, h⟩ := hw.ou; omega
  have hg := hw.put m1 m2 m3 x 1 (N' := N - 1) (by omega)
  rw [show (((1 : Nat) : Nat) : Int) = 1 from rfl] at hg
  have hlen : (σ.set (σ0.length + 1) (.map (clkM (.t (.str x)) c es) (putM (.t (.str x)) (.t (.int .i64 1)) c es))).length = σ.length := List.length_set ..
  generalize hs1 : σ.set (σ0.length + 1) (.map (clkM (.t (.str x)) c es) (putM (.t (.str x)) (.t (.int .i64 1)) c es)) = s1 at *
  have hr1 := hg.rd
  simp -implicitDefEqProofs only [hr1, S0, S1, S2, S3, S4, S5, S6, S7, S8, S9, S10, S11, S12, S13, S14, S15, S16, S17, opv, opvs, eget, env0, setD, lenStr, lenSl, isNilP, isNilS, putAt, if_true, if_false, reduceCtorEq, Nat.reduceLeDiff, Nat.reduceEqDiff, Nat.reduceSub, Nat.reduceMul, Nat.reduceAdd]
  refine call_pure2 (hrds s1 x hg.kp) ?_
  obtain ⟨ys, hys⟩ : ∃ ys, ys = rds x := ⟨_, rfl⟩
  have hyl := hrl x
  have hyc := hcl x hx
  rw [← hys] at hyl hyc ⊢
  obtain ⟨st1, hst1⟩ : ∃ st1, st1 = setS st x 1 := ⟨_, rfl⟩
  have hd : dfs rds (n + 1) st x = if (dfsL (dfs rds n) ys st1).1 = true then (true, setS (dfsL (dfs rds n) ys st1).2 x 2) else (false, (dfsL (dfs rds n) ys st1).2) := by rw [dfs, if_neg n1, if_neg n2, ← hys, ← hst1]
  rw [← hst1] at hg
  have hb1 : σ.length ≤ s1.length := by omega
  simp -implicitDefEqProofs only [List.length_map, S0, S1, S2, S3, S4, S5, S6, S7, S8, S9, S10, S11, S12, S13, S14, S15, S16, S17, opv, opvs, eget, env0, setD, lenStr, lenSl, isNilP, isNilS, putAt, if_true, if_false, reduceCtorEq, Nat.reduceLeDiff, Nat.reduceEqDiff, Nat.reduceSub, Nat.reduceMul, Nat.reduceAdd]
  refine loop_g [22, 0, 1, 3, 4, 20, 21] [0, 1, 3, 4, 20, 21] (fun g : Gd => [(22, .t (.int .i64 (g.k : Nat)))]) (fun g => g.s) (fun g => g.k ≤ ys.length ∧ σ.length ≤ g.s.length ∧ (dfsL (dfs rds n) (ys.take g.k) st1).1 = true ∧ WS σ0 (rvOf bm bs) (wvOf σ0) names (N - 1) (dfsL (dfs rds n) (ys.take g.k) st1).2 g.s) (fun g => ys.length - g.k) ⟨0, s1⟩ hb1 ⟨Nat.zero_le _, hb1, rfl, hg⟩ rfl rfl ?_
  rintro ⟨k, s2⟩ ⟨hk, hb2, hok, hw2⟩
  simp only at hk hb2 hok hw2
  clear hr1
  simp -implicitDefEqProofs only [keep, List.length_map, S0, S1, S2, S3, S4, S5, S6, S7, S8, S9, S10, S11, S12, S13, S14, S15, S16, S17, opv, opvs, eget, env0, setD, lenStr, lenSl, isNilP, isNilS, putAt, if_true, if_false, reduceCtorEq, Nat.reduceLeDiff, Nat.reduceEqDiff, Nat.reduceSub, Nat.reduceMul, Nat.reduceAdd]
  refine cond_split (fun h1 => ?_) (fun h1 => ?_)
  · obtain ⟨y, hy, hlt⟩ := at_of h1
    have more := i64_succ (show k < 4611686018427387904 by omega)
    have hw2k := hw2.wk
    simp -implicitDefEqProofs only [hy, more, tStr, hw2k, nat_nn, Nat.zero_le, List.getElem?_map, Option.map_some, List.length_map, S0, S1, S2, S3, S4, S5, S6, S7, S8, S9, S10, S11, S12, S13, S14, S15, S16, S17, opv, opvs, eget, env0, setD, lenStr, lenSl, isNilP, isNilS, putAt, if_true, if_false, reduceCtorEq, Nat.reduceLeDiff, Nat.reduceEqDiff, Nat.reduceSub, Nat.reduceMul, Nat.reduceAdd]
    have hyn := hyc y (mem_at hy)
    have hstep : dfsL (dfs rds n) (ys.take (k + 1)) st1 = dfs rds n (dfsL (dfs rds n) (ys.take k) st1).2 y := by rw [take_of hy, dfsL_app hok]
    refine call_by (ih (N - 1) (dfsL (dfs rds n) (ys.take k) st1).2 s2 y hw2 (by omega) (by omega) hyn) ?_
    rintro r s3 ⟨rfl, hb3, hk3, hw3⟩
    rw [← hstep] at hw3 ⊢
    rcases hbb : (dfsL (dfs rds n) (ys.take (k + 1)) st1).1 with _ | _
    · simp -implicitDefEqProofs only [cond_t, cond_f, Bool.not_false, S0, S1, S2, S3, S4, S5, S6, S7, S8, S9, S10, S11, S12, S13, S14, S15, S16, S17, opv, opvs, eget, env0, setD, lenStr, lenSl, isNilP, isNilS, putAt, if_true, if_false, reduceCtorEq, Nat.reduceLeDiff, Nat.reduceEqDiff, Nat.reduceSub, Nat.reduceMul, Nat.reduceAdd]
      have hfl : (dfsL (dfs rds n) ys st1).1 = false := by
        have := dfsL_fail (b := ys.drop (k + 1)) hbb
        rw [List.take_append_drop] at this
        exact this
      refine fin_keep (by omega) ⟨?_, by omega, hk3, fun h => ?_⟩
      · rw [hd, hfl]; rfl
      · rw [hd, hfl] at h; cases h
    · simp -implicitDefEqProofs only [cond_t, cond_f, Bool.not_true, more, S0, S1, S2, S3, S4, S5, S6, S7, S8, S9, S10, S11, S12, S13, S14, S15, S16, S17, opv, opvs, eget, env0, setD, lenStr, lenSl, isNilP, isNilS, putAt, if_true, if_false, reduceCtorEq, Nat.reduceLeDiff, Nat.reduceEqDiff, Nat.reduceSub, Nat.reduceMul, Nat.reduceAdd]
      exact lk_g ⟨k + 1, s3⟩ (by simp only; omega) ⟨by simp only; omega, by simp only; omega, hbb, hw3 hbb⟩ (by omega) rfl rfl
  · have hkk := end_of h1 hk
    subst hkk
    rw [List.take_length] at hok hw2
    clear h1 hk
    have hd1 : (dfs rds (n + 1) st x).1 = true := by rw [hd, if_pos hok]
    have hd2 : (dfs rds (n + 1) st x).2 = setS (dfsL (dfs rds n) ys st1).2 x 2 := by rw [hd, if_pos hok]
    obtain ⟨st2, hst2⟩ : ∃ st2, st2 = (dfsL (dfs rds n) ys st1).2 := ⟨_, rfl⟩
    rw [← hst2] at hw2 hd2
    obtain ⟨c2, es2, f2, q1, q2, q3⟩ := hw2.ma
    have hkeys2 := q2.keys (kd := .one .str) (fun a => rfl)
    have mb2 := hw2.mb
    simp -implicitDefEqProofs only [mb2, q1, hkeys2, S0, S1, S2, S3, S4, S5, S6, S7, S8, S9, S10, S11, S12, S13, S14, S15, S16, S17, opv, opvs, eget, env0, setD, lenStr, lenSl, isNilP, isNilS, putAt, if_true, if_false, reduceCtorEq, Nat.reduceLeDiff, Nat.reduceEqDiff, Nat.reduceSub, Nat.reduceMul, Nat.reduceAdd]
    have hbl := hw2.put q1 q2 q3 x 2 (N' := N - 1) (by have := whites_set (st := st2) (x := x) (v := 2) (.inr rfl) names; omega)
    rw [show (((2 : Nat) : Nat) : Int) = 2 from rfl] at hbl
    have hlen2 : (s2.set (σ0.length + 1) (.map (clkM (.t (.str x)) c2 es2) (putM (.t (.str x)) (.t (.int .i64 2)) c2 es2))).length = s2.length := List.length_set ..
    generalize hs3 : s2.set (σ0.length + 1) (.map (clkM (.t (.str x)) c2 es2) (putM (.t (.str x)) (.t (.int .i64 2)) c2 es2)) = s3 at *
    obtain ⟨rows, u, is, o1, o2, o3, o4⟩ := hbl.ou
    simp -implicitDefEqProofs only [o1, o2.one, one_cells o2.one, S0, S1, S2, S3, S4, S5, S6, S7, S8, S9, S10, S11, S12, S13, S14, S15, S16, S17, opv, opvs, eget, env0, setD, lenStr, lenSl, isNilP, isNilS, putAt, if_true, if_false, reduceCtorEq, Nat.reduceLeDiff, Nat.reduceEqDiff, Nat.reduceSub, Nat.reduceMul, Nat.reduceAdd]
    refine ⟨by omega, lit_rows ?_⟩
    simp -implicitDefEqProofs only [q_rows_r _ _ (show ([[V.t (.str x)]].all fun r => r.all one) = true from rfl), S0, S1, S2, S3, S4, S5, S6, S7, S8, S9, S10, S11, S12, S13, S14, S15, S16, S17, opv, opvs, eget, env0, setD, lenStr, lenSl, isNilP, isNilS, putAt, if_true, if_false, reduceCtorEq, Nat.reduceLeDiff, Nat.reduceEqDiff, Nat.reduceSub, Nat.reduceMul, Nat.reduceAdd]
    refine hbl.app (by omega) o1 o2 o3 o4 x ?_
    intro v' s' hle o1' hfin hone'
    simp -implicitDefEqProofs only [o1', hone', one_cells hone', S0, S1, S2, S3, S4, S5, S6, S7, S8, S9, S10, S11, S12, S13, S14, S15, S16, S17, opv, opvs, eget, env0, setD, lenStr, lenSl, isNilP, isNilS, putAt, if_true, if_false, reduceCtorEq, Nat.reduceLeDiff, Nat.reduceEqDiff, Nat.reduceSub, Nat.reduceMul, Nat.reduceAdd]
    refine fin_keep (by rw [List.length_set]; omega) ⟨by rw [hd1]; rfl, by rw [List.length_set]; omega, hfin.kp, fun _ => ?_⟩
    rw [hd2]
    exact hfin.mono (by omega)

end Go.Proofs.Ytcjchimenfadkaa.W

end


section
open Go Go.Ab
set_option maxHeartbeats 2000000
namespace Go.Proofs.Ytcjchimenfadkaa.W
def c_impl_row_string_ : C := (.seq (.ops [⟨(some 3), none, (.box (.t 1))⟩, ⟨(some 4), none, (.mv (.c .nils))⟩, ⟨(some 5), none, (.mv (.c (.t (.bool false))))⟩]) (.seq (.ops [⟨(some 11), none, .mkMap⟩, ⟨(some 6), none, (.new [.nilm])⟩, ⟨none, none, (.store 1 (.t 6) (.t 11))⟩]) (.seq (.ops [⟨(some 7), none, (.new [.nils])⟩]) (.seq (.ops [⟨(some 8), none, (.new [.nilf])⟩]) (.seq (.ops [⟨(some 12), none, (.fn 52 [(.t 6), (.t 3), (.t 8), (.t 7)])⟩, ⟨none, none, (.store 1 (.t 8) (.t 12))⟩]) (.seq (.seq (.ops [⟨(some 13), none, (.mv (.t 0))⟩, ⟨(some 14), none, (.len false (.t 13))⟩, ⟨(some 15), none, (.mv (.c (.t (.int .i64 0))))⟩]) (.block 0 (.loop (.seq (.ops [⟨(some 16), none, (.bin .lss (.t 15) (.t 14))⟩]) (.seq (.cond (.t 16) .skip (.exit 0)) (.seq (.block 1 (.seq (.ops [⟨(some 17), none, (.indexAddr 1 (.t 13) (.t 15))⟩, ⟨(some 18), none, (.load none (.t 17))⟩, ⟨(some 10), none, (.mv (.t 18))⟩]) (.seq (.ops [⟨(some 19), none, (.load none (.t 8))⟩, ⟨(some 20), none, (.mv (.t 10))⟩, ⟨(some 21), none, (.call (.t 19) [(.t 20)])⟩, ⟨(some 22), none, (.un .not (.t 21))⟩]) (.cond (.t 22) (.seq (.ops [⟨(some 4), none, (.mv (.c .nils))⟩, ⟨(some 5), none, (.mv (.c (.t (.bool false))))⟩]) .ret) .skip)))) (.ops [⟨(some 23), none, (.bin .add (.t 15) (.c (.t (.int .i64 1))))⟩, ⟨(some 15), none, (.mv (.t 23))⟩]))))))) (.seq (.ops [⟨(some 24), none, (.load none (.t 7))⟩, ⟨(some 4), none, (.mv (.t 24))⟩, ⟨(some 5), none, (.mv (.c (.t (.bool true))))⟩]) .ret)))))))
theorem k_impl_row_string_ : comp Try.prog 25 (Try.f40.body.getD .skip) = some c_impl_row_string_ := by kernel_rfl

set_option maxHeartbeats 8000000 in
theorem impl_row (bm bs : Nat) (names : List Nm) (hn : names.length ≤ 1000) (rds : Nm → List Nm) (hcl : ∀ x ∈ names, ∀ y ∈ rds x, y ∈ names) (hrl : ∀ x, (rds x).length ≤ 24) (v : V) (σ : Store) (hrds : ∀ s x, Kp σ s → ACalls Try.prog 41 [.t (.str x), .ptr bm 0, .ptr bs 0] s fun r s' => r = .t (.lst 1 ((rds x).map tStr)) ∧ s' = s)
    (hall : (names = [] ∧ (v = .nils ∨ v = .rows 1 [])) ∨ ∃ id, v = .sl id names.length 0 names.length ∧ σ[id]? = some (.slc 1 (names.map fun x => [.t (.str x)]))) :
    ACalls Try.prog 40 [v, rvOf bm bs] σ fun r s' => (∃ u, r = .tup [u, .t (.bool (dfsL (dfs rds (names.length + 1)) names fun _ => 0).1)]) ∧ σ.length ≤ s'.length ∧ Kp σ s' := by
  rcases hall with ⟨hnil, rfl | rfl⟩ | ⟨id, rfl, hid⟩
  · refine acalls_of Try.func40 (by decide +kernel) (code := Try.f40.body.getD .skip) (n := 25) (c := c_impl_row_string_) (rs := [(.tmp 4), (.tmp 5)]) rfl rfl k_impl_row_string_ (by kernel_rfl) (by simp) (fun hσ => ?_)
    simp -implicitDefEqProofs only [c_impl_row_string_, S0, S1, S2, S3, S4, S5, S6, S7, S8, S9, S10, S11, S12, S13, S14, S15, S16, S17, opv, opvs, eget, env0, setD, lenStr, lenSl, isNilP, isNilS, putAt, if_true, if_false, reduceCtorEq, Nat.reduceLeDiff, Nat.reduceEqDiff, Nat.reduceSub, Nat.reduceMul, Nat.reduceAdd]
    have hws : WS σ (rvOf bm bs) (wvOf σ) names names.length (fun _ => 0) (σ ++ [.box [rvOf bm bs], .map 0 [], .box [.map (σ.length + 1)], .box [.nils], .box [wvOf σ]]) := by
      refine ⟨by simp, Kp.app _ _, by simp, ⟨0, [], _, by simp, MapIs.nil, fun p => rfl⟩, by simp, ⟨[], .nils, [], by simp, by simp [Own], Wi.nil, ?_⟩, by simp⟩
      rw [List.length_nil, Nat.zero_add]; exact List.countP_le_length
    try simp -implicitDefEqProofs only [List.length_map, S0, S1, S2, S3, S4, S5, S6, S7, S8, S9, S10, S11, S12, S13, S14, S15, S16, S17, opv, opvs, eget, env0, setD, lenStr, lenSl, isNilP, isNilS, putAt, if_true, if_false, reduceCtorEq, Nat.reduceLeDiff, Nat.reduceEqDiff, Nat.reduceSub, Nat.reduceMul, Nat.reduceAdd]
    refine loop_g [15, 7, 8, 13, 14] [7, 8, 13, 14] (fun g : Gd => [(15, .t (.int .i64 (g.k : Nat)))]) (fun g => g.s) (fun g => g.k ≤ names.length ∧ σ.length ≤ g.s.length ∧ (dfsL (dfs rds (names.length + 1)) (names.take g.k) fun _ => 0).1 = true ∧ WS σ (rvOf bm bs) (wvOf σ) names names.length (dfsL (dfs rds (names.length + 1)) (names.take g.k) fun _ => 0).2 g.s) (fun g => names.length - g.k) ⟨0, _⟩ (by simp) ⟨Nat.zero_le _, by simp, rfl, hws⟩ rfl rfl ?_
    rintro ⟨k, s2⟩ ⟨hk, hb2, hok, hw2⟩
    simp only at hk hb2 hok hw2
    simp -implicitDefEqProofs only [keep, List.length_map, S0, S1, S2, S3, S4, S5, S6, S7, S8, S9, S10, S11, S12, S13, S14, S15, S16, S17, opv, opvs, eget, env0, setD, lenStr, lenSl, isNilP, isNilS, putAt, if_true, if_false, reduceCtorEq, Nat.reduceLeDiff, Nat.reduceEqDiff, Nat.reduceSub, Nat.reduceMul, Nat.reduceAdd]
    refine cond_split (fun h1 => ?_) (fun h1 => ?_)
    · have hlt : k < names.length := by simp at h1; omega
      obtain ⟨x, hx⟩ : ∃ x, names[k]? = some x := ⟨_, List.getElem?_eq_getElem hlt⟩
      rw [hnil] at hx; simp at hx
    · have hkk : k = names.length := by rw [hnil] at hk ⊢; simpa using hk
      rw [hkk, List.take_length] at hok hw2
      clear h1
      obtain ⟨rows, u, is, o1, o2, o3, o4⟩ := hw2.ou
      simp -implicitDefEqProofs only [o1, o2.one, one_cells o2.one, S0, S1, S2, S3, S4, S5, S6, S7, S8, S9, S10, S11, S12, S13, S14, S15, S16, S17, opv, opvs, eget, env0, setD, lenStr, lenSl, isNilP, isNilS, putAt, if_true, if_false, reduceCtorEq, Nat.reduceLeDiff, Nat.reduceEqDiff, Nat.reduceSub, Nat.reduceMul, Nat.reduceAdd]
      exact fin_keep (by omega) ⟨⟨u, by rw [hok]; rfl⟩, by omega, hw2.kp⟩
  · refine acalls_of Try.func40 (by decide +kernel) (code := Try.f40.body.getD .skip) (n := 25) (c := c_impl_row_string_) (rs := [(.tmp 4), (.tmp 5)]) rfl rfl k_impl_row_string_ (by kernel_rfl) (by simp) (fun hσ => ?_)
    simp -implicitDefEqProofs only [c_impl_row_string_, S0, S1, S2, S3, S4, S5, S6, S7, S8, S9, S10, S11, S12, S13, S14, S15, S16, S17, opv, opvs, eget, env0, setD, lenStr, lenSl, isNilP, isNilS, putAt, if_true, if_false, reduceCtorEq, Nat.reduceLeDiff, Nat.reduceEqDiff, Nat.reduceSub, Nat.reduceMul, Nat.reduceAdd]
    have hws : WS σ (rvOf bm bs) (wvOf σ) names names.length (fun _ => 0) (σ ++ [.box [rvOf bm bs], .map 0 [], .box [.map (σ.length + 1)], .box [.nils], .box [wvOf σ]]) := by
      refine ⟨by simp, Kp.app _ _, by simp, ⟨0, [], _, by simp, MapIs.nil, fun p => rfl⟩, by simp, ⟨[], .nils, [], by simp, by simp [Own], Wi.nil, ?_⟩, by simp⟩
      rw [List.length_nil, Nat.zero_add]; exact List.countP_le_length
    try simp -implicitDefEqProofs only [List.length_map, S0, S1, S2, S3, S4, S5, S6, S7, S8, S9, S10, S11, S12, S13, S14, S15, S16, S17, opv, opvs, eget, env0, setD, lenStr, lenSl, isNilP, isNilS, putAt, if_true, if_false, reduceCtorEq, Nat.reduceLeDiff, Nat.reduceEqDiff, Nat.reduceSub, Nat.reduceMul, Nat.reduceAdd]
    refine loop_g [15, 7, 8, 13, 14] [7, 8, 13, 14] (fun g : Gd => [(15, .t (.int .i64 (g.k : Nat)))]) (fun g => g.s) (fun g => g.k ≤ names.length ∧ σ.length ≤ g.s.length ∧ (dfsL (dfs rds (names.length + 1)) (names.take g.k) fun _ => 0).1 = true ∧ WS σ (rvOf bm bs) (wvOf σ) names names.length (dfsL (dfs rds (names.length + 1)) (names.take g.k) fun _ => 0).2 g.s) (fun g => names.length - g.k) ⟨0, _⟩ (by simp) ⟨Nat.zero_le _, by simp, rfl, hws⟩ rfl rfl ?_
    rintro ⟨k, s2⟩ ⟨hk, hb2, hok, hw2⟩
    simp only at hk hb2 hok hw2
    simp -implicitDefEqProofs only [keep, List.length_map, S0, S1, S2, S3, S4, S5, S6, S7, S8, S9, S10, S11, S12, S13, S14, S15, S16, S17, opv, opvs, eget, env0, setD, lenStr, lenSl, isNilP, isNilS, putAt, if_true, if_false, reduceCtorEq, Nat.reduceLeDiff, Nat.reduceEqDiff, Nat.reduceSub, Nat.reduceMul, Nat.reduceAdd]
    refine cond_split (fun h1 => ?_) (fun h1 => ?_)
    · have hlt : k < names.length := by simp at h1; omega
      obtain ⟨x, hx⟩ : ∃ x, names[k]? = some x := ⟨_, List.getElem?_eq_getElem hlt⟩
      rw [hnil] at hx; simp at hx
    · have hkk : k = names.length := by rw [hnil] at hk ⊢; simpa using hk
      rw [hkk, List.take_length] at hok hw2
      clear h1
      obtain ⟨rows, u, is, o1, o2, o3, o4⟩ := hw2.ou
      simp -implicitDefEqProofs only [o1, o2.one, one_cells o2.one, S0, S1, S2, S3, S4, S5, S6, S7, S8, S9, S10, S11, S12, S13, S14, S15, S16, S17, opv, opvs, eget, env0, setD, lenStr, lenSl, isNilP, isNilS, putAt, if_true, if_false, reduceCtorEq, Nat.reduceLeDiff, Nat.reduceEqDiff, Nat.reduceSub, Nat.reduceMul, Nat.reduceAdd]
      exact fin_keep (by omega) ⟨⟨u, by rw [hok]; rfl⟩, by omega, hw2.kp⟩
  · refine acalls_of Try.func40 (by decide +kernel) (code := Try.f40.body.getD .skip) (n := 25) (c := c_impl_row_string_) (rs := [(.tmp 4), (.tmp 5)]) rfl rfl k_impl_row_string_ (by kernel_rfl) (by simp) (fun hσ => ?_)
    simp -implicitDefEqProofs only [c_impl_row_string_, hid, S0, S1, S2, S3, S4, S5, S6, S7, S8, S9, S10, S11, S12, S13, S14, S15, S16, S17, opv, opvs, eget, env0, setD, lenStr, lenSl, isNilP, isNilS, putAt, if_true, if_false, reduceCtorEq, Nat.reduceLeDiff, Nat.reduceEqDiff, Nat.reduceSub, Nat.reduceMul, Nat.reduceAdd]
    have hws : WS σ (rvOf bm bs) (wvOf σ) names names.length (fun _ => 0) (σ ++ [.box [rvOf bm bs], .map 0 [], .box [.map (σ.length + 1)], .box [.nils], .box [wvOf σ]]) := by
      refine ⟨by simp, Kp.app _ _, by simp, ⟨0, [], _, by simp, MapIs.nil, fun p => rfl⟩, by simp, ⟨[], .nils, [], by simp, by simp [Own], Wi.nil, ?_⟩, by simp⟩
      rw [List.length_nil, Nat.zero_add]; exact List.countP_le_length
    try simp -implicitDefEqProofs only [List.length_map, hid, S0, S1, S2, S3, S4, S5, S6, S7, S8, S9, S10, S11, S12, S13, S14, S15, S16, S17, opv, opvs, eget, env0, setD, lenStr, lenSl, isNilP, isNilS, putAt, if_true, if_false, reduceCtorEq, Nat.reduceLeDiff, Nat.reduceEqDiff, Nat.reduceSub, Nat.reduceMul, Nat.reduceAdd]
    refine loop_g [15, 7, 8, 13, 14] [7, 8, 13, 14] (fun g : Gd => [(15, .t (.int .i64 (g.k : Nat)))]) (fun g => g.s) (fun g => g.k ≤ names.length ∧ σ.length ≤ g.s.length ∧ (dfsL (dfs rds (names.length + 1)) (names.take g.k) fun _ => 0).1 = true ∧ WS σ (rvOf bm bs) (wvOf σ) names names.length (dfsL (dfs rds (names.length + 1)) (names.take g.k) fun _ => 0).2 g.s) (fun g => names.length - g.k) ⟨0, _⟩ (by simp) ⟨Nat.zero_le _, by simp, rfl, hws⟩ rfl rfl ?_
    rintro ⟨k, s2⟩ ⟨hk, hb2, hok, hw2⟩
    simp only at hk hb2 hok hw2
    simp -implicitDefEqProofs only [keep, List.length_map, S0, S1, S2, S3, S4, S5, S6, S7, S8, S9, S10, S11, S12, S13, S14, S15, S16, S17, opv, opvs, eget, env0, setD, lenStr, lenSl, isNilP, isNilS, putAt, if_true, if_false, reduceCtorEq, Nat.reduceLeDiff, Nat.reduceEqDiff, Nat.reduceSub, Nat.reduceMul, Nat.reduceAdd]
    refine cond_split (fun h1 => ?_) (fun h1 => ?_)
    · have hlt : k < names.length := by simpa using h1
      obtain ⟨x, hx⟩ : ∃ x, names[k]? = some x := ⟨_, List.getElem?_eq_getElem hlt⟩
      have hid2 : s2[id]? = some (.slc 1 (names.map fun x => [.t (.str x)])) := hw2.kp.box hid
      have hnx : (names.map fun x => [V.t (.str x)])[k]? = some [.t (.str x)] := by rw [List.getElem?_map, hx]; rfl
      have more := i64_succ (show k < 4611686018427387904 by omega)
      have hw2k := hw2.wk
      simp -implicitDefEqProofs only [hid2, hnx, more, hw2k, nat_nn, Nat.zero_le, List.getElem?_map, Option.map_some, List.length_map, S0, S1, S2, S3, S4, S5, S6, S7, S8, S9, S10, S11, S12, S13, S14, S15, S16, S17, opv, opvs, eget, env0, setD, lenStr, lenSl, isNilP, isNilS, putAt, if_true, if_false, reduceCtorEq, Nat.reduceLeDiff, Nat.reduceEqDiff, Nat.reduceSub, Nat.reduceMul, Nat.reduceAdd]
      have hstep : dfsL (dfs rds (names.length + 1)) (names.take (k + 1)) (fun _ => 0) = dfs rds (names.length + 1) (dfsL (dfs rds (names.length + 1)) (names.take k) fun _ => 0).2 x := by rw [take_of hx, dfsL_app hok]
      refine ⟨by omega, ?_⟩
      refine call_by (impl_walk σ bm bs names rds hrds hcl hrl (names.length + 1) names.length _ s2 x hw2 (by omega) (by omega) (mem_at hx)) ?_
      rintro r s3 ⟨rfl, hb3, hk3, hw3⟩
      rw [← hstep] at hw3 ⊢
      rcases hbb : (dfsL (dfs rds (names.length + 1)) (names.take (k + 1)) fun _ => 0).1 with _ | _
      · simp -implicitDefEqProofs only [cond_t, cond_f, Bool.not_false, S0, S1, S2, S3, S4, S5, S6, S7, S8, S9, S10, S11, S12, S13, S14, S15, S16, S17, opv, opvs, eget, env0, setD, lenStr, lenSl, isNilP, isNilS, putAt, if_true, if_false, reduceCtorEq, Nat.reduceLeDiff, Nat.reduceEqDiff, Nat.reduceSub, Nat.reduceMul, Nat.reduceAdd]
        have hfl : (dfsL (dfs rds (names.length + 1)) names fun _ => 0).1 = false := by
          have := dfsL_fail (b := names.drop (k + 1)) hbb
          rw [List.take_append_drop] at this
          exact this
        exact fin_keep (by omega) ⟨⟨.nils, by rw [hfl]; rfl⟩, by omega, hk3⟩
      · simp -implicitDefEqProofs only [cond_t, cond_f, Bool.not_true, more, S0, S1, S2, S3, S4, S5, S6, S7, S8, S9, S10, S11, S12, S13, S14, S15, S16, S17, opv, opvs, eget, env0, setD, lenStr, lenSl, isNilP, isNilS, putAt, if_true, if_false, reduceCtorEq, Nat.reduceLeDiff, Nat.reduceEqDiff, Nat.reduceSub, Nat.reduceMul, Nat.reduceAdd]
        exact lk_g ⟨k + 1, s3⟩ (by simp only; omega) ⟨by simp only; omega, by simp only; omega, hbb, hw3 hbb⟩ (by omega) rfl rfl
    · have hkk : k = names.length := by simp at h1; omega
      rw [hkk, List.take_length] at hok hw2
      clear h1
      obtain ⟨rows, u, is, o1, o2, o3, o4⟩ := hw2.ou
      simp -implicitDefEqProofs only [o1, o2.one, one_cells o2.one, S0, S1, S2, S3, S4, S5, S6, S7, S8, S9, S10, S11, S12, S13, S14, S15, S16, S17, opv, opvs, eget, env0, setD, lenStr, lenSl, isNilP, isNilS, putAt, if_true, if_false, reduceCtorEq, Nat.reduceLeDiff, Nat.reduceEqDiff, Nat.reduceSub, Nat.reduceMul, Nat.reduceAdd]
      exact fin_keep (by omega) ⟨⟨u, by rw [hok]; rfl⟩, by omega, hw2.kp⟩

def c_impl_rowOf : C := (.seq (.ops [⟨(some 2), none, (.box (.t 0))⟩, ⟨(some 3), none, (.box (.t 1))⟩, ⟨(some 4), none, (.mv (.c .nils))⟩, ⟨(some 5), none, (.mv (.c (.t (.bool false))))⟩]) (.seq (.ops [⟨(some 6), none, (.mv (.c .nils))⟩]) (.seq (.seq (.ops [⟨(some 9), none, (.fieldAddr 1 (.t 2))⟩, ⟨(some 10), none, (.load none (.t 9))⟩, ⟨(some 11), none, (.len false (.t 10))⟩, ⟨(some 12), none, (.mv (.c (.t (.int .i64 0))))⟩]) (.block 0 (.loop (.seq (.ops [⟨(some 13), none, (.bin .lss (.t 12) (.t 11))⟩]) (.seq (.cond (.t 13) .skip (.exit 0)) (.seq (.block 1 (.seq (.ops [⟨(some 14), none, (.indexAddr 11 (.t 10) (.t 12))⟩, ⟨(some 15), none, (.load (some 11) (.t 14))⟩, ⟨(some 8), none, (.new [(.t (.str [])), (.t (.int .i64 0)), (.t (.int .i64 0)), (.t (.int .i64 0)), .nils, (.t (.str [])), (.t (.int .i64 0)), (.t (.bool false)), (.t (.bool false)), (.t (.str [])), (.t (.str []))])⟩, ⟨none, none, (.store 11 (.t 8) (.t 15))⟩]) (.ops [⟨(some 16), none, (.mv (.t 6))⟩, ⟨(some 17), none, (.fieldAddr 0 (.t 8))⟩, ⟨(some 18), none, (.load none (.t 17))⟩, ⟨(some 19), none, (.lit none 1 1 [(.t (.str []))] [⟨0, (.t 18)⟩])⟩, ⟨(some 20), none, (.append 1 16 (.t 16) (.t 19))⟩, ⟨(some 6), none, (.mv (.t 20))⟩]))) (.ops [⟨(some 21), none, (.bin .add (.t 12) (.c (.t (.int .i64 1))))⟩, ⟨(some 12), none, (.mv (.t 21))⟩]))))))) (.seq (.ops [⟨(some 22), none, (.mv (.t 6))⟩, ⟨(some 23), none, (.fn 41 [(.t 3), (.t 2)])⟩, ⟨(some 24), none, (.call (.c (.fn (.func 40) [])) [(.t 22), (.t 23)])⟩, ⟨(some 25), none, (.extract (.t 24) 0)⟩, ⟨(some 26), none, (.extract (.t 24) 1)⟩, ⟨(some 4), none, (.mv (.t 25))⟩, ⟨(some 5), none, (.mv (.t 26))⟩]) .ret))))
theorem k_impl_rowOf : comp Try.prog 27 (Try.f22.body.getD .skip) = some c_impl_rowOf := by kernel_rfl

set_option maxHeartbeats 8000000 in
theorem impl_rowOf (sh : GateShape) (hs : sh.Fields.length ≤ 6) (ms : List GateMend) (hm : ms.length ≤ 12) (hcl : ∀ x ∈ nmsOf sh, ∀ y ∈ readsOf sh.Kind ms x, y ∈ nmsOf sh) (σ : Store) : ACalls Try.prog 22 [.agg sh.vs, .t (tGateMendS ms)] σ fun r s' => (∃ u, r = .tup [u, .t (.bool (dfsL (dfs (readsOf sh.Kind ms) ((nmsOf sh).length + 1)) (nmsOf sh) fun _ => 0).1)]) ∧ σ.length ≤ s'.length ∧ Kp σ s' := by
  refine acalls_of Try.func22 (by decide +kernel) (code := Try.f22.body.getD .skip) (n := 27) (c := c_impl_rowOf) (rs := [(.tmp 4), (.tmp 5)]) rfl rfl k_impl_rowOf (by kernel_rfl) (by simp) (fun hσ => ?_)
  have hnl : (nmsOf sh).length = sh.Fields.length := by rw [nmsOf, List.length_map]
  simp -implicitDefEqProofs only [c_impl_rowOf, List.length_map, GateShape.vs, S0, S1, S2, S3, S4, S5, S6, S7, S8, S9, S10, S11, S12, S13, S14, S15, S16, S17, opv, opvs, eget, env0, setD, lenStr, lenSl, isNilP, isNilS, putAt, if_true, if_false, reduceCtorEq, Nat.reduceLeDiff, Nat.reduceEqDiff, Nat.reduceSub, Nat.reduceMul, Nat.reduceAdd]
  refine loop_g [6, 12, 2, 3, 10, 11] [2, 3, 10, 11] (fun g : Gr => [(6, g.v), (12, .t (.int .i64 (g.k : Nat)))]) (fun g => g.s) (fun g => g.k ≤ sh.Fields.length ∧ OFl (σ ++ [.box sh.vs, .box [.t (tGateMendS ms)]]) 1 (((nmsOf sh).take g.k).map tStr) g.v g.s g.is) (fun g => sh.Fields.length - g.k) ⟨0, .nils, _, []⟩ (by simp) ⟨Nat.zero_le _, OFl.nils (by omega)⟩ rfl rfl ?_
  rintro ⟨k, v, s, is⟩ ⟨hk, hof⟩
  simp only at hk hof
  have hbl : σ.length + 2 ≤ s.length := by have := hof.le; simp at this; omega
  have hkσ : Kp σ s := fun j hj => by rw [hof.kp j (by simp; omega), List.getElem?_append_left hj]
  simp -implicitDefEqProofs only [keep, List.length_map, S0, S1, S2, S3, S4, S5, S6, S7, S8, S9, S10, S11, S12, S13, S14, S15, S16, S17, opv, opvs, eget, env0, setD, lenStr, lenSl, isNilP, isNilS, putAt, if_true, if_false, reduceCtorEq, Nat.reduceLeDiff, Nat.reduceEqDiff, Nat.reduceSub, Nat.reduceMul, Nat.reduceAdd]
  refine cond_split (fun h1 => ?_) (fun h1 => ?_)
  · obtain ⟨x, hx, hlt⟩ := at_of h1
    have more := i64_succ (show k < 4611686018427387904 by omega)
    have c1 : 0 < 1 := by omega
    have hni : (nmsOf sh)[k]? = some x.Name := by rw [nmsOf, List.getElem?_map, hx]; rfl
    have hone := hof.one
    simp -implicitDefEqProofs only [hx, more, c1, hone, one_cells hone, nat_nn, Nat.zero_le, List.getElem?_map, Option.map_some, List.length_map, GateField.ts, true_and, S0, S1, S2, S3, S4, S5, S6, S7, S8, S9, S10, S11, S12, S13, S14, S15, S16, S17, opv, opvs, eget, env0, setD, lenStr, lenSl, isNilP, isNilS, putAt, if_true, if_false, reduceCtorEq, Nat.reduceLeDiff, Nat.reduceEqDiff, Nat.reduceSub, Nat.reduceMul, Nat.reduceAdd]
    refine lit_rows ?_
    simp -implicitDefEqProofs only [hx, more, c1, hone, one_cells hone, nat_nn, Nat.zero_le, List.getElem?_map, Option.map_some, List.length_map, GateField.ts, true_and, q_rows_r _ _ (show ([[V.t (.str x.Name)]].all fun r => r.all one) = true from rfl), S0, S1, S2, S3, S4, S5, S6, S7, S8, S9, S10, S11, S12, S13, S14, S15, S16, S17, opv, opvs, eget, env0, setD, lenStr, lenSl, isNilP, isNilS, putAt, if_true, if_false, reduceCtorEq, Nat.reduceLeDiff, Nat.reduceEqDiff, Nat.reduceSub, Nat.reduceMul, Nat.reduceAdd]
    refine (hof.more _).app (r := [.str x.Name]) (by simp [scalar]) (by rw [List.length_map, List.length_take]; simp only [maxBy]; omega) (by rw [List.length_map, List.length_take]; omega) ?_
    intro v' s' is' hle hof'
    try simp -implicitDefEqProofs only [more, S0, S1, S2, S3, S4, S5, S6, S7, S8, S9, S10, S11, S12, S13, S14, S15, S16, S17, opv, opvs, eget, env0, setD, lenStr, lenSl, isNilP, isNilS, putAt, if_true, if_false, reduceCtorEq, Nat.reduceLeDiff, Nat.reduceEqDiff, Nat.reduceSub, Nat.reduceMul, Nat.reduceAdd]
    refine lk_g ⟨k + 1, v', s', is'⟩ (by simp only; omega) ⟨by simp only; omega, ?_⟩ (by have := hof'.le; simp at this; omega) rfl rfl
    simp only
    rw [take_of hni, List.map_append]
    exact hof'
  · have hkk := end_of h1 hk
    rw [hkk, ← hnl, List.take_length] at hof
    clear h1 hk
    have b1 : s[σ.length]? = some (.box sh.vs) := hof.box (by simp)
    have b2 : s[σ.length + 1]? = some (.box [.t (tGateMendS ms)]) := hof.box (by simp)
    have hall : (nmsOf sh = [] ∧ (v = .nils ∨ v = .rows 1 [])) ∨ ∃ id, v = .sl id (nmsOf sh).length 0 (nmsOf sh).length ∧ s[id]? = some (.slc 1 ((nmsOf sh).map fun x => [.t (.str x)])) := by
      rcases own_obj hof.own (by intro r hr t ht; obtain ⟨y, _, rfl⟩ := List.mem_map.1 hr; simp [tStr] at ht; subst ht; rfl) with ⟨h, _, h2⟩ | ⟨id, _, h1, h2⟩
      · exact .inl ⟨by simpa using h, h2⟩
      · refine .inr ⟨id, by simpa using h1, ?_⟩
        rw [h2, tObj, List.map_map]; rfl
    simp -implicitDefEqProofs only [S0, S1, S2, S3, S4, S5, S6, S7, S8, S9, S10, S11, S12, S13, S14, S15, S16, S17, opv, opvs, eget, env0, setD, lenStr, lenSl, isNilP, isNilS, putAt, if_true, if_false, reduceCtorEq, Nat.reduceLeDiff, Nat.reduceEqDiff, Nat.reduceSub, Nat.reduceMul, Nat.reduceAdd]
    refine call_by (by rw [List.append_nil]; exact impl_row (σ.length + 1) σ.length (nmsOf sh) (by omega) (readsOf sh.Kind ms) hcl (fun x => by have := reads_len sh.Kind x ms; omega) v s (fun s' x hk => impl_reads ms hm sh x _ _ s' (hk.box b2) (hk.box b1)) hall) ?_
    rintro r s' ⟨⟨u, rfl⟩, hl', hk'⟩
    simp -implicitDefEqProofs only [S0, S1, S2, S3, S4, S5, S6, S7, S8, S9, S10, S11, S12, S13, S14, S15, S16, S17, opv, opvs, eget, env0, setD, lenStr, lenSl, isNilP, isNilS, putAt, if_true, if_false, reduceCtorEq, Nat.reduceLeDiff, Nat.reduceEqDiff, Nat.reduceSub, Nat.reduceMul, Nat.reduceAdd]
    exact fin_keep (by omega) ⟨⟨u, rfl⟩, by omega, fun j hj => by rw [hk' j (by omega)]; exact hkσ j hj⟩

end Go.Proofs.Ytcjchimenfadkaa.W

end
