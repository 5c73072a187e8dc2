/- What a service should have. Conditions: none. -/
/- Live copies; berths that are drained. Conditions: none. -/
import Derived.Test.YtabakekeicbpbaaStewValidI
import Derived.Test.YtabakekeicbpbaaStewMay
import Derived.Test.YtabakekeicbpbaaAb4
set_option linter.unusedSimpArgs false
set_option linter.unusedVariables false
set_option linter.defProp false

section
open Go Go.Ab
set_option maxHeartbeats 2000000
namespace Go.Proofs.Ytabakekeicbpbaa.W
def demD (s : StewService) : Int := IntKind.i64.wrap ((IntKind.i64.wrap (IntKind.i64.wrap (s.Load + s.Per) - 1)).tdiv s.Per)
def demE (s : StewService) : Int := if demD s < s.Least then s.Least else demD s
def demS (s : StewService) : Int := if demE s > s.Most then s.Most else demE s
def c_spec_l16Desired : C := (.seq (.ops [⟨(some 1), none, (.box (.t 0))⟩, ⟨(some 2), none, (.mv (.c (.t (.int .i64 0))))⟩]) (.seq (.ops [⟨(some 4), none, (.fieldAddr 11 (.t 1))⟩, ⟨(some 5), none, (.load none (.t 4))⟩, ⟨(some 6), none, (.fieldAddr 8 (.t 1))⟩, ⟨(some 7), none, (.load none (.t 6))⟩, ⟨(some 8), none, (.bin .add (.t 5) (.t 7))⟩, ⟨(some 9), none, (.bin .sub (.t 8) (.c (.t (.int .i64 1))))⟩, ⟨(some 10), none, (.fieldAddr 8 (.t 1))⟩, ⟨(some 11), none, (.load none (.t 10))⟩, ⟨(some 12), none, (.bin .quo (.t 9) (.t 11))⟩, ⟨(some 3), none, (.mv (.t 12))⟩]) (.seq (.seq (.ops [⟨(some 13), none, (.mv (.t 3))⟩, ⟨(some 14), none, (.fieldAddr 9 (.t 1))⟩, ⟨(some 15), none, (.load none (.t 14))⟩, ⟨(some 16), none, (.bin .lss (.t 13) (.t 15))⟩]) (.cond (.t 16) (.ops [⟨(some 17), none, (.fieldAddr 9 (.t 1))⟩, ⟨(some 18), none, (.load none (.t 17))⟩, ⟨(some 3), none, (.mv (.t 18))⟩]) .skip)) (.seq (.seq (.ops [⟨(some 19), none, (.mv (.t 3))⟩, ⟨(some 20), none, (.fieldAddr 10 (.t 1))⟩, ⟨(some 21), none, (.load none (.t 20))⟩, ⟨(some 22), none, (.bin .gtr (.t 19) (.t 21))⟩]) (.cond (.t 22) (.ops [⟨(some 23), none, (.fieldAddr 10 (.t 1))⟩, ⟨(some 24), none, (.load none (.t 23))⟩, ⟨(some 3), none, (.mv (.t 24))⟩]) .skip)) (.seq (.ops [⟨(some 25), none, (.mv (.t 3))⟩, ⟨(some 2), none, (.mv (.t 25))⟩]) .ret)))))
theorem k_spec_l16Desired : comp Try.prog 26 (Try.f62.body.getD .skip) = some c_spec_l16Desired := by kernel_rfl

theorem spec_l16Desired (s : StewService) (hp : s.Per ≠ 0)  (σ : Store) : ACalls Try.prog 62 [.agg (s.vs)] σ fun rr σ' => rr = .t (.int .i64 (demS s)) ∧ σ' = σ := by
  refine acalls_of Try.func62 (by decide +kernel) (code := Try.f62.body.getD .skip) (n := 26) (c := c_spec_l16Desired) (rs := [(.tmp 2)]) rfl rfl k_spec_l16Desired (by kernel_rfl) (by simp) (fun hσ => ?_)
  have hh : True := trivial
  have fin : ∀ {u : V} {τ : Store}, u = .t (.int .i64 (demS s)) → u.lt σ.length = true → retV σ.length (fun rr σ' => rr = .t (.int .i64 (demS s)) ∧ σ' = σ) (σ ++ τ) (some [u]) := fun h h2 => ret_same rfl hσ h2 ⟨h, rfl⟩
  have fin0 : ∀ {u : V}, u = .t (.int .i64 (demS s)) → retV σ.length (fun rr σ' => rr = .t (.int .i64 (demS s)) ∧ σ' = σ) σ (some [u]) := fun h => ret_same0 rfl ⟨h, rfl⟩
  have hq : (s.Per ≠ 0) = True := eq_true hp
  simp -implicitDefEqProofs only [c_spec_l16Desired, StewService.vs, hq, S0, S1, S2, S3, S4, S5, S6, S7, S8, S9, S10, S11, S12, S13, S14, S15, S16, opv, opvs, eget, env0, setD, lenStr, lenSl, isNilP, isNilS, putAt, if_true, if_false, reduceCtorEq, Nat.reduceLeDiff, Nat.reduceEqDiff, Nat.reduceSub, Nat.reduceMul, Nat.reduceAdd]
  repeat' (first
    | ((with_reducible refine cond_known (fun h => ?_) (fun h => ?_)) <;> (replace hh := And.intro h hh; clear h; simp -implicitDefEqProofs only [hh, cond_t, cond_f, hq, S0, S1, S2, S3, S4, S5, S6, S7, S8, S9, S10, S11, S12, S13, S14, S15, S16, opv, opvs, eget, env0, setD, lenStr, lenSl, isNilP, isNilS, putAt, if_true, if_false, reduceCtorEq, Nat.reduceLeDiff, Nat.reduceEqDiff, Nat.reduceSub, Nat.reduceMul, Nat.reduceAdd]))
    | (first | ((with_reducible refine fin0 ?_); refine ti ?_; (try simp only [Known] at hh); first | (rw [demS, demE, demD]; grind) | grind [demS, demE, demD]) | ((with_reducible refine fin ?_ ?_); rotate_left; exact rfl; refine ti ?_; (try simp only [Known] at hh); first | (rw [demS, demE, demD]; grind) | grind [demS, demE, demD])))

theorem dem_mm (s : StewService) (h : s.Least ≤ s.Most ∨ True) : min (max (demD s) s.Least) s.Most = demS s := by
  unfold demS demE
  split <;> split <;> omega
def c_impl_demand : C := (.seq (.ops [⟨(some 2), none, (.mv (.c (.t (.int .i64 0))))⟩]) (.seq (.drawn [(.mk 0 false ⟨(some 3), none, (.mv (.t 0))⟩), (.mk 1 false ⟨(some 4), none, (.nilCheck (.t 3))⟩), (.mk 2 false ⟨(some 5), none, (.fieldAddr 11 (.t 4))⟩), (.mk 3 false ⟨(some 6), none, (.load none (.t 5))⟩), (.mk 4 false ⟨(some 7), none, (.mv (.t 0))⟩), (.mk 5 false ⟨(some 8), none, (.nilCheck (.t 7))⟩), (.mk 6 false ⟨(some 9), none, (.fieldAddr 8 (.t 8))⟩), (.mk 7 false ⟨(some 10), none, (.load none (.t 9))⟩), (.mk 8 false ⟨(some 11), none, (.bin .add (.t 6) (.t 10))⟩), (.mk 9 false ⟨(some 12), none, (.bin .sub (.t 11) (.c (.t (.int .i64 1))))⟩), (.mk 10 false ⟨(some 13), none, (.mv (.t 0))⟩), (.mk 11 false ⟨(some 14), none, (.nilCheck (.t 13))⟩), (.mk 12 false ⟨(some 15), none, (.fieldAddr 8 (.t 14))⟩), (.mk 13 false ⟨(some 16), none, (.load none (.t 15))⟩), (.mk 14 false ⟨(some 17), none, (.bin .quo (.t 12) (.t 16))⟩), (.mk 15 false ⟨(some 18), none, (.mv (.t 0))⟩), (.mk 16 false ⟨(some 19), none, (.nilCheck (.t 18))⟩), (.mk 17 false ⟨(some 20), none, (.fieldAddr 9 (.t 19))⟩), (.mk 18 false ⟨(some 21), none, (.load none (.t 20))⟩), (.mk 19 false ⟨(some 22), none, (.mm true (.t 17) (.t 21))⟩), (.mk 20 false ⟨(some 23), none, (.mv (.t 0))⟩), (.mk 21 false ⟨(some 24), none, (.nilCheck (.t 23))⟩), (.mk 22 false ⟨(some 25), none, (.fieldAddr 10 (.t 24))⟩), (.mk 23 false ⟨(some 26), none, (.load none (.t 25))⟩), (.mk 24 false ⟨(some 27), none, (.mm false (.t 22) (.t 26))⟩), (.mk 25 false ⟨(some 2), none, (.mv (.t 27))⟩)]) .ret))
theorem k_impl_demand : comp Try.prog 28 (Try.f63.body.getD .skip) = some c_impl_demand := by kernel_rfl

theorem impl_demand (s : StewService) (hp : s.Per ≠ 0)  (σ : Store) : ACalls Try.prog 63 [.pv s.ts] σ fun rr σ' => rr = .t (.int .i64 (demS s)) ∧ σ' = σ := by
  refine acalls_of Try.func63 (by decide +kernel) (code := Try.f63.body.getD .skip) (n := 28) (c := c_impl_demand) (rs := [(.tmp 2)]) rfl rfl k_impl_demand (by kernel_rfl) (by simp) (fun hσ => ?_)
  have hh : True := trivial
  have fin : ∀ {u : V} {τ : Store}, u = .t (.int .i64 (demS s)) → u.lt σ.length = true → retV σ.length (fun rr σ' => rr = .t (.int .i64 (demS s)) ∧ σ' = σ) (σ ++ τ) (some [u]) := fun h h2 => ret_same rfl hσ h2 ⟨h, rfl⟩
  have fin0 : ∀ {u : V}, u = .t (.int .i64 (demS s)) → retV σ.length (fun rr σ' => rr = .t (.int .i64 (demS s)) ∧ σ' = σ) σ (some [u]) := fun h => ret_same0 rfl ⟨h, rfl⟩
  have hq : (s.Per ≠ 0) = True := eq_true hp
  simp -implicitDefEqProofs only [c_impl_demand, StewService.ts, hq, S0, S1, S2, S3, S4, S5, S6, S7, S8, S9, S10, S11, S12, S13, S14, S15, S16, opv, opvs, eget, env0, setD, lenStr, lenSl, isNilP, isNilS, putAt, if_true, if_false, reduceCtorEq, Nat.reduceLeDiff, Nat.reduceEqDiff, Nat.reduceSub, Nat.reduceMul, Nat.reduceAdd]
  repeat' (first
    | ((with_reducible refine cond_known (fun h => ?_) (fun h => ?_)) <;> (replace hh := And.intro h hh; clear h; simp -implicitDefEqProofs only [hh, cond_t, cond_f, hq, S0, S1, S2, S3, S4, S5, S6, S7, S8, S9, S10, S11, S12, S13, S14, S15, S16, opv, opvs, eget, env0, setD, lenStr, lenSl, isNilP, isNilS, putAt, if_true, if_false, reduceCtorEq, Nat.reduceLeDiff, Nat.reduceEqDiff, Nat.reduceSub, Nat.reduceMul, Nat.reduceAdd]))
    | (first | ((with_reducible refine fin0 ?_); refine ti ?_; (try simp only [Known] at hh); first | (rw [← dem_mm s (.inr trivial), demD]; done) | (rw [← dem_mm s (.inr trivial), demD]; rfl) | grind [demS, demE, demD]) | ((with_reducible refine fin ?_ ?_); rotate_left; exact rfl; refine ti ?_; (try simp only [Known] at hh); first | (rw [← dem_mm s (.inr trivial), demD]; done) | (rw [← dem_mm s (.inr trivial), demD]; rfl) | grind [demS, demE, demD])))

end Go.Proofs.Ytabakekeicbpbaa.W

end


section
open Go Go.Ab
set_option maxHeartbeats 2000000
namespace Go.Proofs.Ytabakekeicbpbaa.W
def drn (b : StewBook) (c : StewCopy) : Bool := match b.Berths.find? (namedB c.Berth) with
  | some x => x.Drain
  | none => false
abbrev liveP (name : List UInt8) (l : List (StewCopy × Nat)) : List (StewCopy × Nat) := l.filter fun p => cLive name p.1
def liveT (p : StewCopy × Nat) : List T := [.int .i64 (p.2 : Nat)]
def liveR (name : List UInt8) (l : List StewCopy) : List (List T) := (liveP name l.zipIdx).map liveT

def c_spec_l16Live : C := (.seq (.ops [⟨(some 2), none, (.box (.t 0))⟩, ⟨(some 4), none, (.mv (.c .nils))⟩]) (.seq (.ops [⟨(some 7), none, (.lit none 1 0 [(.t (.int .i64 0))] [])⟩, ⟨(some 5), none, (.mv (.t 7))⟩]) (.seq (.seq (.ops [⟨(some 6), none, (.mv (.c (.t (.int .i64 0))))⟩]) (.block 0 (.loop (.seq (.seq (.ops [⟨(some 8), none, (.mv (.t 6))⟩, ⟨(some 9), none, (.fieldAddr 2 (.t 2))⟩, ⟨(some 10), none, (.load none (.t 9))⟩, ⟨(some 11), none, (.len false (.t 10))⟩, ⟨(some 12), none, (.bin .lss (.t 8) (.t 11))⟩]) (.cond (.t 12) .skip (.exit 0))) (.seq (.block 1 (.seq (.ops [⟨(some 15), none, (.fieldAddr 2 (.t 2))⟩, ⟨(some 16), none, (.load none (.t 15))⟩, ⟨(some 17), none, (.mv (.t 6))⟩, ⟨(some 18), none, (.indexAddr 7 (.t 16) (.t 17))⟩, ⟨(some 19), none, (.fieldAddr 0 (.t 18))⟩, ⟨(some 20), none, (.load none (.t 19))⟩, ⟨(some 21), none, (.mv (.t 1))⟩, ⟨(some 22), none, (.bin .eql (.t 20) (.t 21))⟩, ⟨(some 23), none, (.mv (.t 22))⟩, ⟨(some 24), (some ⟨23, true⟩), (.fieldAddr 2 (.t 2))⟩, ⟨(some 25), (some ⟨23, true⟩), (.load none (.t 24))⟩, ⟨(some 26), (some ⟨23, true⟩), (.mv (.t 6))⟩, ⟨(some 27), (some ⟨23, true⟩), (.indexAddr 7 (.t 25) (.t 26))⟩, ⟨(some 28), (some ⟨23, true⟩), (.fieldAddr 5 (.t 27))⟩, ⟨(some 29), (some ⟨23, true⟩), (.load none (.t 28))⟩, ⟨(some 30), (some ⟨23, true⟩), (.un .not (.t 29))⟩, ⟨(some 31), none, (.pick (.t 23) (.t 30) (.c (.t (.bool false))))⟩]) (.cond (.t 31) (.ops [⟨(some 32), none, (.mv (.t 5))⟩, ⟨(some 33), none, (.mv (.t 6))⟩, ⟨(some 34), none, (.lit none 1 1 [(.t (.int .i64 0))] [⟨0, (.t 33)⟩])⟩, ⟨(some 35), none, (.append 1 8 (.t 32) (.t 34))⟩, ⟨(some 5), none, (.mv (.t 35))⟩]) .skip))) (.ops [⟨(some 13), none, (.mv (.t 6))⟩, ⟨(some 14), none, (.bin .add (.t 13) (.c (.t (.int .i64 1))))⟩, ⟨(some 6), none, (.mv (.t 14))⟩])))))) (.seq (.ops [⟨(some 36), none, (.mv (.t 5))⟩, ⟨(some 4), none, (.mv (.t 36))⟩]) .ret))))
theorem k_spec_l16Live : comp Try.prog 37 (Try.f64.body.getD .skip) = some c_spec_l16Live := by kernel_rfl

theorem spec_l16Live0 (b : StewBook) (hb : b.Ok) (name : List UInt8) (σ : Store) : ACalls Try.prog 64 [.agg b.vs, .t (.str name)] σ (ToR (.lst 1 (liveR name b.Copies)) σ) := by
  refine acalls_of Try.func64 (by decide +kernel) (code := Try.f64.body.getD .skip) (n := 37) (c := c_spec_l16Live) (rs := [(.tmp 4)]) rfl rfl k_spec_l16Live (by kernel_rfl) (by simp) (fun hσ => ?_)
  have y1 := hb.Copies.1
  simp -implicitDefEqProofs only [c_spec_l16Live, StewBook.vs, List.length_map, S0, S1, S2, S3, S4, S5, S6, S7, S8, S9, S10, S11, S12, S13, S14, S15, S16, opv, opvs, eget, env0, setD, lenStr, lenSl, isNilP, isNilS, putAt, if_true, if_false, reduceCtorEq, Nat.reduceLeDiff, Nat.reduceEqDiff, Nat.reduceSub, Nat.reduceMul, Nat.reduceAdd]
  refine lit_rows ?_
  simp -implicitDefEqProofs only [List.length_map, S0, S1, S2, S3, S4, S5, S6, S7, S8, S9, S10, S11, S12, S13, S14, S15, S16, opv, opvs, eget, env0, setD, lenStr, lenSl, isNilP, isNilS, putAt, if_true, if_false, reduceCtorEq, Nat.reduceLeDiff, Nat.reduceEqDiff, Nat.reduceSub, Nat.reduceMul, Nat.reduceAdd]
  refine loop_g [5, 6, 1, 2] [1, 2] (fun g : Ga => [(5, g.v), (6, .t (.int .i64 (g.k : Nat)))]) (fun g => g.s) (fun g => g.k ≤ b.Copies.length ∧ OFl (σ ++ [.box b.vs]) 1 ((liveP name (b.Copies.zipIdx.take g.k)).map liveT) g.v g.s g.is) (fun g => b.Copies.length - g.k) ⟨0, .rows 1 [], σ ++ [.box b.vs], []⟩ (by simp) ⟨Nat.zero_le _, by simpa using OFl.rows (by omega)⟩ rfl rfl ?_
  rintro ⟨k, v, s, is⟩ ⟨hk, hof⟩
  simp only at hk hof
  have hid : s[σ.length]? = some (.box b.vs) := hof.box (by simp)
  have hbl : σ.length ≤ s.length := by have := hof.le; simp at this; omega
  rw [StewBook.vs] at hid
  have hidA : ∀ τ : Store, (s ++ τ)[σ.length]? = some _ := fun τ => (Kp.app s τ).box hid
  simp -implicitDefEqProofs only [keep, hid, hidA, List.length_map, S0, S1, S2, S3, S4, S5, S6, S7, S8, S9, S10, S11, S12, S13, S14, S15, S16, opv, opvs, eget, env0, setD, lenStr, lenSl, isNilP, isNilS, putAt, if_true, if_false, reduceCtorEq, Nat.reduceLeDiff, Nat.reduceEqDiff, Nat.reduceSub, Nat.reduceMul, Nat.reduceAdd]
  refine cond_split (fun h1 => ?_) (fun h1 => ?_)
  · obtain ⟨x, hx, hlt⟩ := at_of h1
    have more := i64_succ (show k < 4611686018427387904 by omega)
    have c1 : 0 < 1 := by omega
    have hz : b.Copies.zipIdx[k]? = some (x, k) := zip_at hx
    have hnl : ((liveP name (b.Copies.zipIdx.take k)).map liveT).length ≤ k := by
      rw [List.length_map]
      exact Nat.le_trans (List.length_filter_le _ _) (List.length_take_le _ _)
    have hstep : (liveP name (b.Copies.zipIdx.take (k + 1))).map liveT = (liveP name (b.Copies.zipIdx.take k)).map liveT ++ (if cLive name x = true then [liveT (x, k)] else []) := by
      rw [take_of hz, liveP, List.filter_append, List.map_append]
      congr 1
      by_cases h : cLive name x = true
      · simp [h]
      · simp [h]
    have yes : cLive name x = true → OFl (σ ++ [.box b.vs]) 1 ((liveP name (b.Copies.zipIdx.take k)).map liveT ++ [liveT (x, k)]) = OFl (σ ++ [.box b.vs]) 1 ((liveP name (b.Copies.zipIdx.take (k + 1))).map liveT) := fun h => by rw [hstep, if_pos h]
    have no : cLive name x = false → OFl (σ ++ [.box b.vs]) 1 ((liveP name (b.Copies.zipIdx.take k)).map liveT) = OFl (σ ++ [.box b.vs]) 1 ((liveP name (b.Copies.zipIdx.take (k + 1))).map liveT) := fun h => by rw [hstep, if_neg (by rw [h]; simp), List.append_nil]
    have b1 : (((liveP name (b.Copies.zipIdx.take k)).map liveT).length + 1) * 8 ≤ maxBy := by simp only [maxBy]; omega
    have b2 : ((liveP name (b.Copies.zipIdx.take k)).map liveT).length + 1 ≤ 9223372036854775807 := by omega
    generalize hL : (liveP name (b.Copies.zipIdx.take k)).map liveT = L at *
    clear h1
    have hh : True := trivial
    simp -implicitDefEqProofs only [hid, hidA, hx, nat_nn, Nat.zero_le, List.getElem?_map, Option.map_some, List.length_map, StewCopy.ts, more, c1, S0, S1, S2, S3, S4, S5, S6, S7, S8, S9, S10, S11, S12, S13, S14, S15, S16, opv, opvs, eget, env0, setD, lenStr, lenSl, isNilP, isNilS, putAt, if_true, if_false, reduceCtorEq, Nat.reduceLeDiff, Nat.reduceEqDiff, Nat.reduceSub, Nat.reduceMul, Nat.reduceAdd]
    repeat' (first
      | ((with_reducible refine cond_known (fun h => ?_) (fun h => ?_)) <;> (replace hh := And.intro h hh; clear h; simp -implicitDefEqProofs only [hh, cond_t, cond_f, hid, hidA, hx, nat_nn, Nat.zero_le, List.getElem?_map, Option.map_some, List.length_map, StewCopy.ts, more, c1, S0, S1, S2, S3, S4, S5, S6, S7, S8, S9, S10, S11, S12, S13, S14, S15, S16, opv, opvs, eget, env0, setD, lenStr, lenSl, isNilP, isNilS, putAt, if_true, if_false, reduceCtorEq, Nat.reduceLeDiff, Nat.reduceEqDiff, Nat.reduceSub, Nat.reduceMul, Nat.reduceAdd]))
      | (refine lit_rows ?_; simp -implicitDefEqProofs only [hh, cond_t, cond_f, c1, q_rows_r _ _ (show ([[V.t (.int .i64 (k : Nat))]].all fun r => r.all one) = true from rfl), S0, S1, S2, S3, S4, S5, S6, S7, S8, S9, S10, S11, S12, S13, S14, S15, S16, opv, opvs, eget, env0, setD, lenStr, lenSl, isNilP, isNilS, putAt, if_true, if_false, reduceCtorEq, Nat.reduceLeDiff, Nat.reduceEqDiff, Nat.reduceSub, Nat.reduceMul, Nat.reduceAdd]; refine hof.app (r := [.int .i64 (k : Nat)]) (by simp [scalar]) b1 b2 ?_; intro v' s' is' hle hof'; simp -implicitDefEqProofs only [more, S0, S1, S2, S3, S4, S5, S6, S7, S8, S9, S10, S11, S12, S13, S14, S15, S16, opv, opvs, eget, env0, setD, lenStr, lenSl, isNilP, isNilS, putAt, if_true, if_false, reduceCtorEq, Nat.reduceLeDiff, Nat.reduceEqDiff, Nat.reduceSub, Nat.reduceMul, Nat.reduceAdd]; refine lk_g ⟨k + 1, v', s', is'⟩ (by simp only; omega) ⟨by simp only; omega, ?_⟩ (by omega) rfl rfl; rw [← yes (by (try simp only [Known] at hh); grind [cLive])]; exact hof')
      | (refine lk_g ⟨k + 1, v, s, is⟩ (by simp only; omega) ⟨by simp only; omega, ?_⟩ (by omega) rfl rfl; rw [← no (by (try simp only [Known] at hh); grind [cLive])]; exact hof))
  · have hkk := end_of h1 hk
    subst hkk
    rw [List.take_of_length_le (by simp)] at hof
    simp -implicitDefEqProofs only [S0, S1, S2, S3, S4, S5, S6, S7, S8, S9, S10, S11, S12, S13, S14, S15, S16, opv, opvs, eget, env0, setD, lenStr, lenSl, isNilP, isNilS, putAt, if_true, if_false, reduceCtorEq, Nat.reduceLeDiff, Nat.reduceEqDiff, Nat.reduceSub, Nat.reduceMul, Nat.reduceAdd]
    exact fin_keep hbl hof.toR
theorem spec_l16Live (b : StewBook) (hb : b.Ok) (name : List UInt8) (σ : Store) : ACalls Try.prog 64 [.agg b.vs, .t (.str name)] σ fun rr σ' => rr = .t (.lst 1 (liveR name b.Copies)) ∧ σ' = σ := acalls_frzT (spec_l16Live0 b hb name σ)

def c_spec_l16Drains : C := (.seq (.ops [⟨(some 2), none, (.box (.t 0))⟩, ⟨(some 3), none, (.box (.t 1))⟩, ⟨(some 4), none, (.mv (.c (.t (.bool false))))⟩]) (.seq (.ops [⟨(some 6), none, (.load (some 4) (.t 2))⟩, ⟨(some 7), none, (.fieldAddr 6 (.t 3))⟩, ⟨(some 8), none, (.load none (.t 7))⟩, ⟨(some 9), none, (.call (.c (.fn (.func 79) [])) [(.t 6), (.t 8)])⟩, ⟨(some 5), none, (.mv (.t 9))⟩]) (.seq (.ops [⟨(some 10), none, (.mv (.t 5))⟩, ⟨(some 11), none, (.bin .geq (.t 10) (.c (.t (.int .i64 0))))⟩, ⟨(some 12), none, (.mv (.t 11))⟩, ⟨(some 13), (some ⟨12, true⟩), (.fieldAddr 3 (.t 2))⟩, ⟨(some 14), (some ⟨12, true⟩), (.load none (.t 13))⟩, ⟨(some 15), (some ⟨12, true⟩), (.mv (.t 5))⟩, ⟨(some 16), (some ⟨12, true⟩), (.indexAddr 2 (.t 14) (.t 15))⟩, ⟨(some 17), (some ⟨12, true⟩), (.fieldAddr 1 (.t 16))⟩, ⟨(some 18), (some ⟨12, true⟩), (.load none (.t 17))⟩, ⟨(some 19), none, (.pick (.t 12) (.t 18) (.c (.t (.bool false))))⟩, ⟨(some 4), none, (.mv (.t 19))⟩]) .ret)))
theorem k_spec_l16Drains : comp Try.prog 20 (Try.f65.body.getD .skip) = some c_spec_l16Drains := by kernel_rfl

theorem spec_l16Drains (b : StewBook) (hb : b.Ok) (c : StewCopy)  (σ : Store) : ACalls Try.prog 65 [.agg (b.vs), .agg (c.vs)] σ fun rr σ' => rr = .t (.bool (drn b c)) ∧ σ' = σ := by
  refine acalls_of Try.func65 (by decide +kernel) (code := Try.f65.body.getD .skip) (n := 20) (c := c_spec_l16Drains) (rs := [(.tmp 4)]) rfl rfl k_spec_l16Drains (by kernel_rfl) (by simp) (fun hσ => ?_)
  have hh : True := trivial
  have fin : ∀ {u : V} {τ : Store}, u = .t (.bool (drn b c)) → u.lt σ.length = true → retV σ.length (fun rr σ' => rr = .t (.bool (drn b c)) ∧ σ' = σ) (σ ++ τ) (some [u]) := fun h h2 => ret_same rfl hσ h2 ⟨h, rfl⟩
  have fin0 : ∀ {u : V}, u = .t (.bool (drn b c)) → retV σ.length (fun rr σ' => rr = .t (.bool (drn b c)) ∧ σ' = σ) σ (some [u]) := fun h => ret_same0 rfl ⟨h, rfl⟩
  simp -implicitDefEqProofs only [c_spec_l16Drains, StewBook.vs, StewCopy.vs, S0, S1, S2, S3, S4, S5, S6, S7, S8, S9, S10, S11, S12, S13, S14, S15, S16, opv, opvs, eget, env0, setD, lenStr, lenSl, isNilP, isNilS, putAt, if_true, if_false, reduceCtorEq, Nat.reduceLeDiff, Nat.reduceEqDiff, Nat.reduceSub, Nat.reduceMul, Nat.reduceAdd]
  refine call_pure (spec_l12Berth b hb c.Berth _) ?_
  rcases find_i (namedB c.Berth) b.Berths 0 with ⟨h1, h2⟩ | ⟨i, s, h1, h2, h3⟩
  · have hco : drn b c = false := by simp [drn, h2]
    have d1 : decide ((-1 : Int) ≥ 0) = false := by decide
    rw [h1]
    simp -implicitDefEqProofs only [d1, cond_t, cond_f, S0, S1, S2, S3, S4, S5, S6, S7, S8, S9, S10, S11, S12, S13, S14, S15, S16, opv, opvs, eget, env0, setD, lenStr, lenSl, isNilP, isNilS, putAt, if_true, if_false, reduceCtorEq, Nat.reduceLeDiff, Nat.reduceEqDiff, Nat.reduceSub, Nat.reduceMul, Nat.reduceAdd]
    first | exact fin0 (by rw [hco]) | exact fin (by rw [hco]) rfl
  · rw [h2, Nat.zero_add]
    have d1 : decide (((i : Nat) : Int) ≥ 0) = true := by simp
    have hco : drn b c = s.Drain := by simp only [drn, h3]
    simp -implicitDefEqProofs only [d1, decide_true, cond_t, cond_f, h1, nat_nn, Nat.zero_le, List.getElem?_map, Option.map_some, List.length_map, StewBerth.ts, S0, S1, S2, S3, S4, S5, S6, S7, S8, S9, S10, S11, S12, S13, S14, S15, S16, opv, opvs, eget, env0, setD, lenStr, lenSl, isNilP, isNilS, putAt, if_true, if_false, reduceCtorEq, Nat.reduceLeDiff, Nat.reduceEqDiff, Nat.reduceSub, Nat.reduceMul, Nat.reduceAdd]
    first | exact fin0 (by rw [hco]) | exact fin (by rw [hco]) rfl

def c___impl_StewBook__drained : C := (.seq (.ops [⟨(some 3), none, (.box (.t 1))⟩, ⟨(some 4), none, (.mv (.c (.t (.bool false))))⟩]) (.seq (.ops [⟨(some 6), none, (.mv (.t 0))⟩, ⟨(some 7), none, (.fieldAddr 6 (.t 3))⟩, ⟨(some 8), none, (.load none (.t 7))⟩, ⟨(some 9), none, (.call (.c (.fn (.func 50) [])) [(.t 6), (.t 8)])⟩, ⟨(some 5), none, (.mv (.t 9))⟩]) (.seq (.ops [⟨(some 10), none, (.mv (.t 5))⟩, ⟨(some 11), none, (.eqP true (.t 10) (.c .nilp))⟩, ⟨(some 12), none, (.mv (.t 11))⟩, ⟨(some 13), (some ⟨12, true⟩), (.mv (.t 5))⟩, ⟨(some 14), (some ⟨12, true⟩), (.nilCheck (.t 13))⟩, ⟨(some 15), (some ⟨12, true⟩), (.fieldAddr 1 (.t 14))⟩, ⟨(some 16), (some ⟨12, true⟩), (.load none (.t 15))⟩, ⟨(some 17), none, (.pick (.t 12) (.t 16) (.c (.t (.bool false))))⟩, ⟨(some 4), none, (.mv (.t 17))⟩]) .ret)))
theorem k___impl_StewBook__drained : comp Try.prog 18 (Try.f67.body.getD .skip) = some c___impl_StewBook__drained := by kernel_rfl

theorem impl_drained (b : StewBook) (hb : b.Ok) (c : StewCopy) (id : Nat)  (σ : Store) (hid : σ[id]? = some (.box b.vs)) : ACalls Try.prog 67 [.ptr id 0, .agg (c.vs)] σ fun rr σ' => rr = .t (.bool (drn b c)) ∧ σ' = σ := by
  refine acalls_of Try.func67 (by decide +kernel) (code := Try.f67.body.getD .skip) (n := 18) (c := c___impl_StewBook__drained) (rs := [(.tmp 4)]) rfl rfl k___impl_StewBook__drained (by kernel_rfl) (by simp) (fun hσ => ?_)
  have hh : True := trivial
  have fin : ∀ {u : V} {τ : Store}, u = .t (.bool (drn b c)) → u.lt σ.length = true → retV σ.length (fun rr σ' => rr = .t (.bool (drn b c)) ∧ σ' = σ) (σ ++ τ) (some [u]) := fun h h2 => ret_same rfl hσ h2 ⟨h, rfl⟩
  have fin0 : ∀ {u : V}, u = .t (.bool (drn b c)) → retV σ.length (fun rr σ' => rr = .t (.bool (drn b c)) ∧ σ' = σ) σ (some [u]) := fun h => ret_same0 rfl ⟨h, rfl⟩
  have hidA : ∀ τ : Store, (σ ++ τ)[id]? = some _ := fun τ => (Kp.app σ τ).box hid
  simp -implicitDefEqProofs only [c___impl_StewBook__drained, StewCopy.vs, S0, S1, S2, S3, S4, S5, S6, S7, S8, S9, S10, S11, S12, S13, S14, S15, S16, opv, opvs, eget, env0, setD, lenStr, lenSl, isNilP, isNilS, putAt, if_true, if_false, reduceCtorEq, Nat.reduceLeDiff, Nat.reduceEqDiff, Nat.reduceSub, Nat.reduceMul, Nat.reduceAdd]
  refine call_pure (__impl_StewBook__berth b hb c.Berth id _ (hidA _)) ?_
  rcases hf : b.Berths.find? (namedB c.Berth) with _ | s
  · have hco : drn b c = false := by simp [drn, hf]
    simp -implicitDefEqProofs only [bvV, cond_t, cond_f, S0, S1, S2, S3, S4, S5, S6, S7, S8, S9, S10, S11, S12, S13, S14, S15, S16, opv, opvs, eget, env0, setD, lenStr, lenSl, isNilP, isNilS, putAt, if_true, if_false, reduceCtorEq, Nat.reduceLeDiff, Nat.reduceEqDiff, Nat.reduceSub, Nat.reduceMul, Nat.reduceAdd]
    first | exact fin0 (by rw [hco]) | exact fin (by rw [hco]) rfl
  · have hco : drn b c = s.Drain := by simp only [drn, hf]
    simp -implicitDefEqProofs only [bvV, cond_t, cond_f, nat_nn, Nat.zero_le, List.getElem?_map, Option.map_some, List.length_map, StewBerth.ts, S0, S1, S2, S3, S4, S5, S6, S7, S8, S9, S10, S11, S12, S13, S14, S15, S16, opv, opvs, eget, env0, setD, lenStr, lenSl, isNilP, isNilS, putAt, if_true, if_false, reduceCtorEq, Nat.reduceLeDiff, Nat.reduceEqDiff, Nat.reduceSub, Nat.reduceMul, Nat.reduceAdd]
    first | exact fin0 (by rw [hco]) | exact fin (by rw [hco]) rfl

def c_impl_one : C := (.seq (.ops [⟨(some 2), none, (.mv (.c (.t (.int .i64 0))))⟩]) (.seq (.seq (.ops [⟨(some 3), none, (.mv (.t 0))⟩]) (.cond (.t 3) (.seq (.ops [⟨(some 2), none, (.mv (.c (.t (.int .i64 1))))⟩]) .ret) .skip)) (.seq (.ops [⟨(some 2), none, (.mv (.c (.t (.int .i64 0))))⟩]) .ret)))
theorem k_impl_one : comp Try.prog 4 (Try.f66.body.getD .skip) = some c_impl_one := by kernel_rfl

theorem impl_one (x : Bool)  (σ : Store) : ACalls Try.prog 66 [.t (.bool (x))] σ fun rr σ' => rr = .t (.int .i64 ((if x = true then 1 else 0))) ∧ σ' = σ := by
  refine acalls_of Try.func66 (by decide +kernel) (code := Try.f66.body.getD .skip) (n := 4) (c := c_impl_one) (rs := [(.tmp 2)]) rfl rfl k_impl_one (by kernel_rfl) (by simp) (fun hσ => ?_)
  have hh : True := trivial
  have fin : ∀ {u : V} {τ : Store}, u = .t (.int .i64 ((if x = true then 1 else 0))) → u.lt σ.length = true → retV σ.length (fun rr σ' => rr = .t (.int .i64 ((if x = true then 1 else 0))) ∧ σ' = σ) (σ ++ τ) (some [u]) := fun h h2 => ret_same rfl hσ h2 ⟨h, rfl⟩
  have fin0 : ∀ {u : V}, u = .t (.int .i64 ((if x = true then 1 else 0))) → retV σ.length (fun rr σ' => rr = .t (.int .i64 ((if x = true then 1 else 0))) ∧ σ' = σ) σ (some [u]) := fun h => ret_same0 rfl ⟨h, rfl⟩
  simp -implicitDefEqProofs only [c_impl_one, S0, S1, S2, S3, S4, S5, S6, S7, S8, S9, S10, S11, S12, S13, S14, S15, S16, opv, opvs, eget, env0, setD, lenStr, lenSl, isNilP, isNilS, putAt, if_true, if_false, reduceCtorEq, Nat.reduceLeDiff, Nat.reduceEqDiff, Nat.reduceSub, Nat.reduceMul, Nat.reduceAdd]
  repeat' (first
    | ((with_reducible refine cond_known (fun h => ?_) (fun h => ?_)) <;> (replace hh := And.intro h hh; clear h; simp -implicitDefEqProofs only [hh, cond_t, cond_f, S0, S1, S2, S3, S4, S5, S6, S7, S8, S9, S10, S11, S12, S13, S14, S15, S16, opv, opvs, eget, env0, setD, lenStr, lenSl, isNilP, isNilS, putAt, if_true, if_false, reduceCtorEq, Nat.reduceLeDiff, Nat.reduceEqDiff, Nat.reduceSub, Nat.reduceMul, Nat.reduceAdd]))
    | (first | ((with_reducible refine fin0 ?_); refine ti ?_; (try simp only [Known] at hh); grind) | ((with_reducible refine fin ?_ ?_); rotate_left; exact rfl; refine ti ?_; (try simp only [Known] at hh); grind)))

end Go.Proofs.Ytabakekeicbpbaa.W

end
