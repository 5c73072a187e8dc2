/- DeskApart of the reference and of the program. Conditions: none. -/
import Derived.Test.YtbbhhndbhioacaaNames
import Derived.Test.YtbbhhndbhioacaaAb4
import Derived.KernelRfl
set_option linter.unusedSimpArgs false
set_option linter.unusedVariables false
set_option linter.defProp false
open Go Go.Ab
set_option maxHeartbeats 2000000
namespace Go.Proofs.Ytbbhhndbhioacaa.W
def dOk (d : Desk) : Bool := nameOk d.Who && nameOk d.Door && maybeOk d.Prefix
def pairS (d x : Desk) : Bool := !(d.Door == x.Door || begs d.Prefix x.Prefix || begs x.Prefix d.Prefix)
def rowS (l : List Desk) (x : Desk × Nat) : Bool := dOk x.1 && (l.take x.2).all (pairS x.1)
def apartS (l : List Desk) : Bool := l.zipIdx.all (rowS l) && decide (l.length ≤ 4)
def pairI (d : Desk) (i : Nat) (x : Desk × Nat) : Bool := decide (i = x.2) || !(d.Door == x.1.Door || begs d.Prefix x.1.Prefix)
def rowI (l : List Desk) (x : Desk × Nat) : Bool := dOk x.1 && l.zipIdx.all (pairI x.1 x.2)
def apartI (l : List Desk) : Bool := decide (l.length ≤ 4) && l.zipIdx.all (rowI l)
theorem all_zip {α : Type} {l : List α} {p : α × Nat → Bool} : l.zipIdx.all p = true ↔ ∀ i x, l[i]? = some x → p (x, i) = true := by
  rw [List.all_eq_true]
  constructor
  · intro h i x hx
    exact h (x, i) (List.mem_of_getElem? (zip_at hx))
  · rintro h ⟨x, i⟩ hx
    exact h i x (by simpa using List.mem_zipIdx_iff_getElem?.1 hx)
theorem apart_eq (l : List Desk) : apartI l = apartS l := by
  rw [Bool.eq_iff_iff]
  simp only [apartI, apartS, Bool.and_eq_true, all_zip, rowI, rowS, pairI, pairS]
  constructor
  · rintro ⟨h1, h2⟩
    refine ⟨fun i x hx => ⟨(h2 i x hx).1, ?_⟩, h1⟩
    rw [List.all_eq_true]
    intro y hy
    obtain ⟨k, hk, rfl⟩ := List.getElem_of_mem hy
    rw [List.length_take] at hk
    rw [List.getElem_take]
    have hk1 : k < i := by omega
    have hk2 : k < l.length := by omega
    have a1 := (h2 i x hx).2 k l[k] (by simp [hk2])
    have a2 := (h2 k l[k] (by simp [hk2])).2 i x hx
    have n1 : ¬ i = k := by omega
    have n2 : ¬ k = i := by omega
    simp only [n1, n2, decide_false, Bool.false_or, Bool.not_eq_true', Bool.or_eq_false_iff] at a1 a2
    simp [pairS, beq_eq_false_iff_ne.1 a1.1, a1.2, a2.2]
  · rintro ⟨h2, h1⟩
    refine ⟨h1, fun i x hx => ⟨(h2 i x hx).1, fun k y hy => ?_⟩⟩
    have key : ∀ (i k : Nat) (x y : Desk), l[i]? = some x → l[k]? = some y → k < i → (!(x.Door == y.Door || begs x.Prefix y.Prefix || begs y.Prefix x.Prefix)) = true := by
      intro i k x y hx hy hlt
      have hi := (List.getElem?_eq_some_iff.1 hx).1
      have := (h2 i x hx).2
      rw [List.all_eq_true] at this
      refine this y (List.mem_of_getElem? (i := k) ?_)
      rw [List.getElem?_take, if_pos hlt]; exact hy
    rcases Nat.lt_trichotomy i k with hlt | rfl | hlt
    · have := key k i y x hy hx hlt
      simp only [Bool.not_eq_true', Bool.or_eq_false_iff, beq_eq_false_iff_ne] at this
      have hne : ¬ x.Door = y.Door := fun e => this.1.1 e.symm
      simp [this.2, hne]
    · simp
    · have := key i k x y hx hy hlt
      simp only [Bool.not_eq_true', Bool.or_eq_false_iff, beq_eq_false_iff_ne] at this
      simp [this.1.1, this.1.2]

def c_spec_DeskOk : C := (.seq (.ops [⟨(some 1), none, (.box (.t 0))⟩, ⟨(some 2), none, (.mv (.c (.t (.bool false))))⟩]) (.seq (.ops [⟨(some 3), none, (.fieldAddr 0 (.t 1))⟩, ⟨(some 4), none, (.load none (.t 3))⟩, ⟨(some 5), none, (.call (.c (.fn (.func 21) [])) [(.t 4)])⟩, ⟨(some 6), none, (.mv (.t 5))⟩, ⟨(some 7), (some ⟨6, true⟩), (.fieldAddr 1 (.t 1))⟩, ⟨(some 8), (some ⟨6, true⟩), (.load none (.t 7))⟩, ⟨(some 9), (some ⟨6, true⟩), (.call (.c (.fn (.func 21) [])) [(.t 8)])⟩, ⟨(some 10), none, (.pick (.t 6) (.t 9) (.c (.t (.bool false))))⟩, ⟨(some 11), none, (.mv (.t 10))⟩, ⟨(some 12), (some ⟨11, true⟩), (.fieldAddr 2 (.t 1))⟩, ⟨(some 13), (some ⟨11, true⟩), (.load none (.t 12))⟩, ⟨(some 14), (some ⟨11, true⟩), (.call (.c (.fn (.func 22) [])) [(.t 13)])⟩, ⟨(some 15), none, (.pick (.t 11) (.t 14) (.c (.t (.bool false))))⟩, ⟨(some 2), none, (.mv (.t 15))⟩]) .ret))
theorem k_spec_DeskOk : comp Try.prog 16 (Try.f8.body.getD .skip) = some c_spec_DeskOk := by kernel_rfl

theorem spec_DeskOk (d : Desk) (hd : d.Ok)  (σ : Store) : ACalls Try.prog 8 [.agg (d.vs)] σ fun rr σ' => rr = .t (.bool (dOk d)) ∧ σ' = σ := by
  refine acalls_of Try.func8 (by decide +kernel) (code := Try.f8.body.getD .skip) (n := 16) (c := c_spec_DeskOk) (rs := [(.tmp 2)]) rfl rfl k_spec_DeskOk (by kernel_rfl) (by simp) (fun hσ => ?_)
  have hh : True := trivial
  have fin : ∀ {u : V} {τ : Store}, u = .t (.bool (dOk d)) → u.lt σ.length = true → retV σ.length (fun rr σ' => rr = .t (.bool (dOk d)) ∧ σ' = σ) (σ ++ τ) (some [u]) := fun h h2 => ret_same rfl hσ h2 ⟨h, rfl⟩
  have fin0 : ∀ {u : V}, u = .t (.bool (dOk d)) → retV σ.length (fun rr σ' => rr = .t (.bool (dOk d)) ∧ σ' = σ) σ (some [u]) := fun h => ret_same0 rfl ⟨h, rfl⟩
  simp -implicitDefEqProofs only [c_spec_DeskOk, Desk.vs, S0, S1, S2, S3, S4, S5, S6, S7, S8, S9, S10, S11, S12, S13, S14, S15, opv, opvs, eget, env0, setD, lenStr, lenSl, isNilP, isNilS, putAt, if_true, if_false, reduceCtorEq, Nat.reduceLeDiff, Nat.reduceEqDiff, Nat.reduceSub, Nat.reduceMul, Nat.reduceAdd]
  repeat' (first
    | ((with_reducible refine cond_known (fun h => ?_) (fun h => ?_)) <;> (replace hh := And.intro h hh; clear h; simp -implicitDefEqProofs only [hh, cond_t, cond_f, S0, S1, S2, S3, S4, S5, S6, S7, S8, S9, S10, S11, S12, S13, S14, S15, opv, opvs, eget, env0, setD, lenStr, lenSl, isNilP, isNilS, putAt, if_true, if_false, reduceCtorEq, Nat.reduceLeDiff, Nat.reduceEqDiff, Nat.reduceSub, Nat.reduceMul, Nat.reduceAdd]))
    | ((with_reducible refine call_pure (spec_l1NameOk _ hd.Who _) ?_); simp -implicitDefEqProofs only [hh, cond_t, cond_f, S0, S1, S2, S3, S4, S5, S6, S7, S8, S9, S10, S11, S12, S13, S14, S15, opv, opvs, eget, env0, setD, lenStr, lenSl, isNilP, isNilS, putAt, if_true, if_false, reduceCtorEq, Nat.reduceLeDiff, Nat.reduceEqDiff, Nat.reduceSub, Nat.reduceMul, Nat.reduceAdd])
    | ((with_reducible refine call_pure (spec_l1NameOk _ hd.Door _) ?_); simp -implicitDefEqProofs only [hh, cond_t, cond_f, S0, S1, S2, S3, S4, S5, S6, S7, S8, S9, S10, S11, S12, S13, S14, S15, opv, opvs, eget, env0, setD, lenStr, lenSl, isNilP, isNilS, putAt, if_true, if_false, reduceCtorEq, Nat.reduceLeDiff, Nat.reduceEqDiff, Nat.reduceSub, Nat.reduceMul, Nat.reduceAdd])
    | ((with_reducible refine call_pure (spec_l30Maybe _ hd.Prefix _) ?_); simp -implicitDefEqProofs only [hh, cond_t, cond_f, S0, S1, S2, S3, S4, S5, S6, S7, S8, S9, S10, S11, S12, S13, S14, S15, opv, opvs, eget, env0, setD, lenStr, lenSl, isNilP, isNilS, putAt, if_true, if_false, reduceCtorEq, Nat.reduceLeDiff, Nat.reduceEqDiff, Nat.reduceSub, Nat.reduceMul, Nat.reduceAdd])
    | (first | ((with_reducible refine fin0 ?_); refine tb ?_; (try simp only [Known] at hh); grind [dOk, maybeOk]) | ((with_reducible refine fin ?_ ?_); rotate_left; exact rfl; refine tb ?_; (try simp only [Known] at hh); grind [dOk, maybeOk])))

def c_impl_DeskOk : C := (.seq (.ops [⟨(some 1), none, (.box (.t 0))⟩, ⟨(some 2), none, (.mv (.c (.t (.bool false))))⟩]) (.seq (.ops [⟨(some 3), none, (.fieldAddr 0 (.t 1))⟩, ⟨(some 4), none, (.load none (.t 3))⟩, ⟨(some 5), none, (.call (.c (.fn (.func 23) [])) [(.t 4)])⟩, ⟨(some 6), none, (.mv (.t 5))⟩, ⟨(some 7), (some ⟨6, true⟩), (.fieldAddr 1 (.t 1))⟩, ⟨(some 8), (some ⟨6, true⟩), (.load none (.t 7))⟩, ⟨(some 9), (some ⟨6, true⟩), (.call (.c (.fn (.func 23) [])) [(.t 8)])⟩, ⟨(some 10), none, (.pick (.t 6) (.t 9) (.c (.t (.bool false))))⟩, ⟨(some 11), none, (.mv (.t 10))⟩, ⟨(some 12), (some ⟨11, true⟩), (.fieldAddr 2 (.t 1))⟩, ⟨(some 13), (some ⟨11, true⟩), (.load none (.t 12))⟩, ⟨(some 14), (some ⟨11, true⟩), (.bin .eql (.t 13) (.c (.t (.str []))))⟩, ⟨(some 15), (some ⟨11, true⟩), (.mv (.t 14))⟩, ⟨(some 16), (some ⟨15, false⟩), (.fieldAddr 2 (.t 1))⟩, ⟨(some 17), (some ⟨15, false⟩), (.load none (.t 16))⟩, ⟨(some 18), (some ⟨15, false⟩), (.call (.c (.fn (.func 23) [])) [(.t 17)])⟩, ⟨(some 19), (some ⟨11, true⟩), (.pick (.t 15) (.c (.t (.bool true))) (.t 18))⟩, ⟨(some 20), none, (.pick (.t 11) (.t 19) (.c (.t (.bool false))))⟩, ⟨(some 2), none, (.mv (.t 20))⟩]) .ret))
theorem k_impl_DeskOk : comp Try.prog 21 (Try.f10.body.getD .skip) = some c_impl_DeskOk := by kernel_rfl

theorem impl_DeskOk (d : Desk) (hd : d.Ok)  (σ : Store) : ACalls Try.prog 10 [.agg (d.vs)] σ fun rr σ' => rr = .t (.bool (dOk d)) ∧ σ' = σ := by
  refine acalls_of Try.func10 (by decide +kernel) (code := Try.f10.body.getD .skip) (n := 21) (c := c_impl_DeskOk) (rs := [(.tmp 2)]) rfl rfl k_impl_DeskOk (by kernel_rfl) (by simp) (fun hσ => ?_)
  have hh : True := trivial
  have fin : ∀ {u : V} {τ : Store}, u = .t (.bool (dOk d)) → u.lt σ.length = true → retV σ.length (fun rr σ' => rr = .t (.bool (dOk d)) ∧ σ' = σ) (σ ++ τ) (some [u]) := fun h h2 => ret_same rfl hσ h2 ⟨h, rfl⟩
  have fin0 : ∀ {u : V}, u = .t (.bool (dOk d)) → retV σ.length (fun rr σ' => rr = .t (.bool (dOk d)) ∧ σ' = σ) σ (some [u]) := fun h => ret_same0 rfl ⟨h, rfl⟩
  simp -implicitDefEqProofs only [c_impl_DeskOk, Desk.vs, S0, S1, S2, S3, S4, S5, S6, S7, S8, S9, S10, S11, S12, S13, S14, S15, opv, opvs, eget, env0, setD, lenStr, lenSl, isNilP, isNilS, putAt, if_true, if_false, reduceCtorEq, Nat.reduceLeDiff, Nat.reduceEqDiff, Nat.reduceSub, Nat.reduceMul, Nat.reduceAdd]
  repeat' (first
    | ((with_reducible refine cond_known (fun h => ?_) (fun h => ?_)) <;> (replace hh := And.intro h hh; clear h; simp -implicitDefEqProofs only [hh, cond_t, cond_f, S0, S1, S2, S3, S4, S5, S6, S7, S8, S9, S10, S11, S12, S13, S14, S15, opv, opvs, eget, env0, setD, lenStr, lenSl, isNilP, isNilS, putAt, if_true, if_false, reduceCtorEq, Nat.reduceLeDiff, Nat.reduceEqDiff, Nat.reduceSub, Nat.reduceMul, Nat.reduceAdd]))
    | ((with_reducible refine call_pure (impl_hwName _ hd.Who _) ?_); simp -implicitDefEqProofs only [hh, cond_t, cond_f, S0, S1, S2, S3, S4, S5, S6, S7, S8, S9, S10, S11, S12, S13, S14, S15, opv, opvs, eget, env0, setD, lenStr, lenSl, isNilP, isNilS, putAt, if_true, if_false, reduceCtorEq, Nat.reduceLeDiff, Nat.reduceEqDiff, Nat.reduceSub, Nat.reduceMul, Nat.reduceAdd])
    | ((with_reducible refine call_pure (impl_hwName _ hd.Door _) ?_); simp -implicitDefEqProofs only [hh, cond_t, cond_f, S0, S1, S2, S3, S4, S5, S6, S7, S8, S9, S10, S11, S12, S13, S14, S15, opv, opvs, eget, env0, setD, lenStr, lenSl, isNilP, isNilS, putAt, if_true, if_false, reduceCtorEq, Nat.reduceLeDiff, Nat.reduceEqDiff, Nat.reduceSub, Nat.reduceMul, Nat.reduceAdd])
    | ((with_reducible refine call_pure (impl_hwName _ hd.Prefix _) ?_); simp -implicitDefEqProofs only [hh, cond_t, cond_f, S0, S1, S2, S3, S4, S5, S6, S7, S8, S9, S10, S11, S12, S13, S14, S15, opv, opvs, eget, env0, setD, lenStr, lenSl, isNilP, isNilS, putAt, if_true, if_false, reduceCtorEq, Nat.reduceLeDiff, Nat.reduceEqDiff, Nat.reduceSub, Nat.reduceMul, Nat.reduceAdd])
    | (first | ((with_reducible refine fin0 ?_); refine tb ?_; (try simp only [Known] at hh); grind [dOk, maybeOk]) | ((with_reducible refine fin ?_ ?_); rotate_left; exact rfl; refine tb ?_; (try simp only [Known] at hh); grind [dOk, maybeOk])))

def c_spec_DeskApart : C := (.seq (.ops [⟨(some 2), none, (.mv (.c (.t (.bool false))))⟩]) (.seq (.seq (.ops [⟨(some 3), none, (.mv (.c (.t (.int .i64 0))))⟩]) (.block 0 (.loop (.seq (.seq (.ops [⟨(some 5), none, (.mv (.t 3))⟩, ⟨(some 6), none, (.mv (.t 0))⟩, ⟨(some 7), none, (.len false (.t 6))⟩, ⟨(some 8), none, (.bin .lss (.t 5) (.t 7))⟩]) (.cond (.t 8) .skip (.exit 0))) (.seq (.block 1 (.seq (.seq (.ops [⟨(some 11), none, (.mv (.t 0))⟩, ⟨(some 12), none, (.mv (.t 3))⟩, ⟨(some 13), none, (.indexAddr 4 (.t 11) (.t 12))⟩, ⟨(some 14), none, (.load (some 4) (.t 13))⟩, ⟨(some 15), none, (.call (.c (.fn (.func 8) [])) [(.t 14)])⟩, ⟨(some 16), none, (.un .not (.t 15))⟩]) (.cond (.t 16) (.seq (.ops [⟨(some 2), none, (.mv (.c (.t (.bool false))))⟩]) .ret) .skip)) (.seq (.ops [⟨(some 4), none, (.mv (.c (.t (.int .i64 0))))⟩]) (.block 2 (.loop (.seq (.seq (.ops [⟨(some 17), none, (.mv (.t 4))⟩, ⟨(some 18), none, (.mv (.t 3))⟩, ⟨(some 19), none, (.bin .lss (.t 17) (.t 18))⟩]) (.cond (.t 19) .skip (.exit 2))) (.seq (.block 3 (.seq (.drawn [(.mk 0 false ⟨(some 22), none, (.mv (.t 0))⟩), (.mk 1 false ⟨(some 23), none, (.mv (.t 3))⟩), (.mk 2 false ⟨(some 24), none, (.indexAddr 4 (.t 22) (.t 23))⟩), (.mk 3 false ⟨(some 25), none, (.fieldAddr 1 (.t 24))⟩), (.mk 4 false ⟨(some 26), none, (.load none (.t 25))⟩), (.mk 5 false ⟨(some 27), none, (.mv (.t 0))⟩), (.mk 6 false ⟨(some 28), none, (.mv (.t 4))⟩), (.mk 7 false ⟨(some 29), none, (.indexAddr 4 (.t 27) (.t 28))⟩), (.mk 8 false ⟨(some 30), none, (.fieldAddr 1 (.t 29))⟩), (.mk 9 false ⟨(some 31), none, (.load none (.t 30))⟩), (.mk 10 false ⟨(some 32), none, (.bin .eql (.t 26) (.t 31))⟩), (.mk 11 false ⟨(some 33), none, (.mv (.t 32))⟩), (.mk 12 false ⟨(some 34), (some ⟨33, false⟩), (.mv (.t 0))⟩), (.mk 13 false ⟨(some 35), (some ⟨33, false⟩), (.mv (.t 3))⟩), (.mk 14 false ⟨(some 36), (some ⟨33, false⟩), (.indexAddr 4 (.t 34) (.t 35))⟩), (.mk 15 false ⟨(some 37), (some ⟨33, false⟩), (.fieldAddr 2 (.t 36))⟩), (.mk 16 false ⟨(some 38), (some ⟨33, false⟩), (.load none (.t 37))⟩), (.mk 17 false ⟨(some 39), (some ⟨33, false⟩), (.mv (.t 0))⟩), (.mk 18 false ⟨(some 40), (some ⟨33, false⟩), (.mv (.t 4))⟩), (.mk 19 false ⟨(some 41), (some ⟨33, false⟩), (.indexAddr 4 (.t 39) (.t 40))⟩), (.mk 20 false ⟨(some 42), (some ⟨33, false⟩), (.fieldAddr 2 (.t 41))⟩), (.mk 21 false ⟨(some 43), (some ⟨33, false⟩), (.load none (.t 42))⟩), (.mk 22 false ⟨(some 44), (some ⟨33, false⟩), (.call (.c (.fn (.func 24) [])) [(.t 38), (.t 43)])⟩), (.mk 23 false ⟨(some 45), none, (.pick (.t 33) (.c (.t (.bool true))) (.t 44))⟩), (.mk 24 false ⟨(some 46), none, (.mv (.t 45))⟩), (.mk 25 false ⟨(some 47), (some ⟨46, false⟩), (.mv (.t 0))⟩), (.mk 26 false ⟨(some 48), (some ⟨46, false⟩), (.mv (.t 4))⟩), (.mk 27 false ⟨(some 49), (some ⟨46, false⟩), (.indexAddr 4 (.t 47) (.t 48))⟩), (.mk 28 false ⟨(some 50), (some ⟨46, false⟩), (.fieldAddr 2 (.t 49))⟩), (.mk 29 false ⟨(some 51), (some ⟨46, false⟩), (.load none (.t 50))⟩), (.mk 30 false ⟨(some 52), (some ⟨46, false⟩), (.mv (.t 0))⟩), (.mk 31 false ⟨(some 53), (some ⟨46, false⟩), (.mv (.t 3))⟩), (.mk 32 false ⟨(some 54), (some ⟨46, false⟩), (.indexAddr 4 (.t 52) (.t 53))⟩), (.mk 33 false ⟨(some 55), (some ⟨46, false⟩), (.fieldAddr 2 (.t 54))⟩), (.mk 34 false ⟨(some 56), (some ⟨46, false⟩), (.load none (.t 55))⟩), (.mk 35 false ⟨(some 57), (some ⟨46, false⟩), (.call (.c (.fn (.func 24) [])) [(.t 51), (.t 56)])⟩), (.mk 36 false ⟨(some 58), none, (.pick (.t 46) (.c (.t (.bool true))) (.t 57))⟩)]) (.cond (.t 58) (.seq (.ops [⟨(some 2), none, (.mv (.c (.t (.bool false))))⟩]) .ret) .skip))) (.ops [⟨(some 20), none, (.mv (.t 4))⟩, ⟨(some 21), none, (.bin .add (.t 20) (.c (.t (.int .i64 1))))⟩, ⟨(some 4), none, (.mv (.t 21))⟩])))))))) (.ops [⟨(some 9), none, (.mv (.t 3))⟩, ⟨(some 10), none, (.bin .add (.t 9) (.c (.t (.int .i64 1))))⟩, ⟨(some 3), none, (.mv (.t 10))⟩])))))) (.seq (.ops [⟨(some 59), none, (.mv (.t 0))⟩, ⟨(some 60), none, (.len false (.t 59))⟩, ⟨(some 61), none, (.bin .leq (.t 60) (.c (.t (.int .i64 4))))⟩, ⟨(some 2), none, (.mv (.t 61))⟩]) .ret)))
theorem k_spec_DeskApart : comp Try.prog 62 (Try.f12.body.getD .skip) = some c_spec_DeskApart := by kernel_rfl

theorem spec_DeskApart (l : List Desk) (hl : Desk.OkS l)  (σ : Store) : ACalls Try.prog 12 [.t (tDeskS l)] σ fun rr σ' => rr = .t (.bool (apartS l)) ∧ σ' = σ := by
  refine acalls_of Try.func12 (by decide +kernel) (code := Try.f12.body.getD .skip) (n := 62) (c := c_spec_DeskApart) (rs := [(.tmp 2)]) rfl rfl k_spec_DeskApart (by kernel_rfl) (by simp) (fun hσ => ?_)
  have hh : True := trivial
  have fin : ∀ {u : V} {τ : Store}, u = .t (.bool (apartS l)) → u.lt σ.length = true → retV σ.length (fun rr σ' => rr = .t (.bool (apartS l)) ∧ σ' = σ) (σ ++ τ) (some [u]) := fun h h2 => ret_same rfl hσ h2 ⟨h, rfl⟩
  have fin0 : ∀ {u : V}, u = .t (.bool (apartS l)) → retV σ.length (fun rr σ' => rr = .t (.bool (apartS l)) ∧ σ' = σ) σ (some [u]) := fun h => ret_same0 rfl ⟨h, rfl⟩
  have y1 := hl.1
  simp -implicitDefEqProofs only [c_spec_DeskApart, List.length_map, tDeskS, S0, S1, S2, S3, S4, S5, S6, S7, S8, S9, S10, S11, S12, S13, S14, S15, opv, opvs, eget, env0, setD, lenStr, lenSl, isNilP, isNilS, putAt, if_true, if_false, reduceCtorEq, Nat.reduceLeDiff, Nat.reduceEqDiff, Nat.reduceSub, Nat.reduceMul, Nat.reduceAdd]
  refine loop_p [3, 0] [0] (fun k : Nat => [(3, .t (.int .i64 (k : Nat)))]) (fun k => k ≤ l.length ∧ (l.zipIdx.take k).all (rowS l) = true) (fun k => l.length - k) 0 (by simp) ⟨Nat.zero_le _, rfl⟩ rfl ?_
  rintro k ⟨hk, hall⟩
  simp -implicitDefEqProofs only [keep, List.length_map, S0, S1, S2, S3, S4, S5, S6, S7, S8, S9, S10, S11, S12, S13, S14, S15, opv, opvs, eget, env0, setD, lenStr, lenSl, isNilP, isNilS, putAt, if_true, if_false, reduceCtorEq, Nat.reduceLeDiff, Nat.reduceEqDiff, Nat.reduceSub, Nat.reduceMul, Nat.reduceAdd]
  refine cond_split (fun h1 => ?_) (fun h1 => ?_)
  · obtain ⟨x, hx, hlt⟩ := at_of h1
    have hxo := hl.2 x (mem_at hx)
    have more := i64_succ (show k < 4611686018427387904 by omega)
    simp -implicitDefEqProofs only [hx, nat_nn, Nat.zero_le, List.getElem?_map, Option.map_some, List.length_map, Desk.ts, more, S0, S1, S2, S3, S4, S5, S6, S7, S8, S9, S10, S11, S12, S13, S14, S15, opv, opvs, eget, env0, setD, lenStr, lenSl, isNilP, isNilS, putAt, if_true, if_false, reduceCtorEq, Nat.reduceLeDiff, Nat.reduceEqDiff, Nat.reduceSub, Nat.reduceMul, Nat.reduceAdd]
    refine call_pure (spec_DeskOk x hxo _) ?_
    simp -implicitDefEqProofs only [S0, S1, S2, S3, S4, S5, S6, S7, S8, S9, S10, S11, S12, S13, S14, S15, opv, opvs, eget, env0, setD, lenStr, lenSl, isNilP, isNilS, putAt, if_true, if_false, reduceCtorEq, Nat.reduceLeDiff, Nat.reduceEqDiff, Nat.reduceSub, Nat.reduceMul, Nat.reduceAdd]
    refine cond_split (fun h2 => ?_) (fun h2 => ?_)
    · simp -implicitDefEqProofs only [S0, S1, S2, S3, S4, S5, S6, S7, S8, S9, S10, S11, S12, S13, S14, S15, opv, opvs, eget, env0, setD, lenStr, lenSl, isNilP, isNilS, putAt, if_true, if_false, reduceCtorEq, Nat.reduceLeDiff, Nat.reduceEqDiff, Nat.reduceSub, Nat.reduceMul, Nat.reduceAdd]
      have hno := all_not (l := l.zipIdx) (p := rowS l) (zip_at hx) (by have : dOk x = false := by simpa using h2
                                                                        simp [rowS, this])
      first | exact fin0 (by simp [apartS, hno]) | exact fin (by simp [apartS, hno]) rfl
    have hd : dOk x = true := by simpa using h2
    simp -implicitDefEqProofs only [S0, S1, S2, S3, S4, S5, S6, S7, S8, S9, S10, S11, S12, S13, S14, S15, opv, opvs, eget, env0, setD, lenStr, lenSl, isNilP, isNilS, putAt, if_true, if_false, reduceCtorEq, Nat.reduceLeDiff, Nat.reduceEqDiff, Nat.reduceSub, Nat.reduceMul, Nat.reduceAdd]
    refine loop_p [4, 0, 3] [0, 3] (fun j : Nat => [(4, .t (.int .i64 (j : Nat)))]) (fun j => j ≤ k ∧ ((l.take k).take j).all (pairS x) = true) (fun j => k - j) 0 (by simp) ⟨Nat.zero_le _, rfl⟩ rfl ?_
    rintro j ⟨hj, hall2⟩
    simp -implicitDefEqProofs only [keep, S0, S1, S2, S3, S4, S5, S6, S7, S8, S9, S10, S11, S12, S13, S14, S15, opv, opvs, eget, env0, setD, lenStr, lenSl, isNilP, isNilS, putAt, if_true, if_false, reduceCtorEq, Nat.reduceLeDiff, Nat.reduceEqDiff, Nat.reduceSub, Nat.reduceMul, Nat.reduceAdd]
    refine cond_split (fun h3 => ?_) (fun h3 => ?_)
    · have hjk : j < k := by simpa using h3
      obtain ⟨y, hy⟩ : ∃ y, l[j]? = some y := ⟨l[j]'(by omega), by simp [show j < l.length by omega]⟩
      have hyt : (l.take k)[j]? = some y := by rw [List.getElem?_take, if_pos hjk]; exact hy
      have more2 := i64_succ (show j < 4611686018427387904 by omega)
      simp -implicitDefEqProofs only [hx, hy, nat_nn, Nat.zero_le, List.getElem?_map, Option.map_some, List.length_map, Desk.ts, more2, S0, S1, S2, S3, S4, S5, S6, S7, S8, S9, S10, S11, S12, S13, S14, S15, opv, opvs, eget, env0, setD, lenStr, lenSl, isNilP, isNilS, putAt, if_true, if_false, reduceCtorEq, Nat.reduceLeDiff, Nat.reduceEqDiff, Nat.reduceSub, Nat.reduceMul, Nat.reduceAdd]
      have hh : True := trivial
      repeat' (first
        | ((with_reducible refine cond_known (fun h => ?_) (fun h => ?_)) <;> (replace hh := And.intro h hh; clear h; simp -implicitDefEqProofs only [hh, cond_t, cond_f, hx, hy, nat_nn, Nat.zero_le, List.getElem?_map, Option.map_some, List.length_map, Desk.ts, more2, S0, S1, S2, S3, S4, S5, S6, S7, S8, S9, S10, S11, S12, S13, S14, S15, opv, opvs, eget, env0, setD, lenStr, lenSl, isNilP, isNilS, putAt, if_true, if_false, reduceCtorEq, Nat.reduceLeDiff, Nat.reduceEqDiff, Nat.reduceSub, Nat.reduceMul, Nat.reduceAdd]))
        | ((with_reducible refine call_pure (spec_l4Begins _ _ _) ?_); simp -implicitDefEqProofs only [hh, cond_t, cond_f, hx, hy, nat_nn, Nat.zero_le, List.getElem?_map, Option.map_some, List.length_map, Desk.ts, more2, S0, S1, S2, S3, S4, S5, S6, S7, S8, S9, S10, S11, S12, S13, S14, S15, opv, opvs, eget, env0, setD, lenStr, lenSl, isNilP, isNilS, putAt, if_true, if_false, reduceCtorEq, Nat.reduceLeDiff, Nat.reduceEqDiff, Nat.reduceSub, Nat.reduceMul, Nat.reduceAdd])
        | ((first | refine fin0 (tb ?_) | refine fin (tb ?_) rfl); (try simp only [Known] at hh); have hno2 := all_not (l := l.take k) (p := pairS x) hyt (by grind [pairS]); have hno := all_not (l := l.zipIdx) (p := rowS l) (zip_at hx) (by simp [rowS, hno2]); simp [apartS, hno])
        | (first | exact lk_p0 (j + 1) (by simp) (by simp) (by omega) ⟨by omega, all_step hyt hall2 (by (try simp only [Known] at hh); grind [pairS])⟩ rfl | exact lk_p (j + 1) (by simp) (by simp) hσ rfl (by omega) ⟨by omega, all_step hyt hall2 (by (try simp only [Known] at hh); grind [pairS])⟩ (by simp [ltE, keep, eget, V.lt]) rfl | exact lk_pm (j + 1) (Nat.le_refl _) (by simp) hσ rfl rfl (by omega) ⟨by omega, all_step hyt hall2 (by (try simp only [Known] at hh); grind [pairS])⟩ (by simp [ltE, keep, eget, V.lt]) rfl))
    · have hjj : j = k := by
        have := of_decide_eq_false h3
        omega
      subst hjj
      have hp : (l.take j).all (pairS x) = true := by
        rw [List.take_take, Nat.min_self] at hall2; exact hall2
      simp -implicitDefEqProofs only [more, S0, S1, S2, S3, S4, S5, S6, S7, S8, S9, S10, S11, S12, S13, S14, S15, opv, opvs, eget, env0, setD, lenStr, lenSl, isNilP, isNilS, putAt, if_true, if_false, reduceCtorEq, Nat.reduceLeDiff, Nat.reduceEqDiff, Nat.reduceSub, Nat.reduceMul, Nat.reduceAdd]
      first | exact lk_p0 (j + 1) (by simp) (by simp) (by omega) ⟨by omega, all_step (zip_at hx) hall (by simp [rowS, hd, hp])⟩ rfl | exact lk_p (j + 1) (by simp) (by simp) hσ rfl (by omega) ⟨by omega, all_step (zip_at hx) hall (by simp [rowS, hd, hp])⟩ (by simp [ltE, keep, eget, V.lt]) rfl | exact lk_pm (j + 1) (Nat.le_refl _) (by simp) hσ rfl rfl (by omega) ⟨by omega, all_step (zip_at hx) hall (by simp [rowS, hd, hp])⟩ (by simp [ltE, keep, eget, V.lt]) rfl
  · replace hall := all_len hall ((end_of h1 hk).trans (by simp))
    simp -implicitDefEqProofs only [List.length_map, S0, S1, S2, S3, S4, S5, S6, S7, S8, S9, S10, S11, S12, S13, S14, S15, opv, opvs, eget, env0, setD, lenStr, lenSl, isNilP, isNilS, putAt, if_true, if_false, reduceCtorEq, Nat.reduceLeDiff, Nat.reduceEqDiff, Nat.reduceSub, Nat.reduceMul, Nat.reduceAdd]
    have he : apartS l = decide ((l.length : Int) ≤ 4) := by
      simp only [apartS, hall, Bool.true_and]
      apply decide_eq_decide.2; omega
    first | exact fin0 (by rw [he]) | exact fin (by rw [he]) rfl

def c_impl_DeskApart : C := (.seq (.ops [⟨(some 2), none, (.mv (.c (.t (.bool false))))⟩]) (.seq (.seq (.ops [⟨(some 7), none, (.mv (.t 0))⟩, ⟨(some 8), none, (.len false (.t 7))⟩, ⟨(some 9), none, (.bin .gtr (.t 8) (.c (.t (.int .i64 4))))⟩]) (.cond (.t 9) (.seq (.ops [⟨(some 2), none, (.mv (.c (.t (.bool false))))⟩]) .ret) .skip)) (.seq (.seq (.ops [⟨(some 10), none, (.mv (.t 0))⟩, ⟨(some 11), none, (.len false (.t 10))⟩, ⟨(some 12), none, (.mv (.c (.t (.int .i64 0))))⟩]) (.block 0 (.loop (.seq (.ops [⟨(some 13), none, (.bin .lss (.t 12) (.t 11))⟩]) (.seq (.cond (.t 13) .skip (.exit 0)) (.seq (.block 1 (.seq (.ops [⟨(some 14), none, (.mv (.t 12))⟩, ⟨(some 15), none, (.indexAddr 4 (.t 10) (.t 12))⟩, ⟨(some 16), none, (.load (some 4) (.t 15))⟩, ⟨(some 4), none, (.new [(.t (.str [])), (.t (.str [])), (.t (.str [])), (.t (.str []))])⟩, ⟨(some 3), none, (.mv (.t 14))⟩, ⟨none, none, (.store 4 (.t 4) (.t 16))⟩]) (.seq (.seq (.ops [⟨(some 17), none, (.load (some 4) (.t 4))⟩, ⟨(some 18), none, (.call (.c (.fn (.func 10) [])) [(.t 17)])⟩, ⟨(some 19), none, (.un .not (.t 18))⟩]) (.cond (.t 19) (.seq (.ops [⟨(some 2), none, (.mv (.c (.t (.bool false))))⟩]) .ret) .skip)) (.seq (.ops [⟨(some 20), none, (.mv (.t 0))⟩, ⟨(some 21), none, (.len false (.t 20))⟩, ⟨(some 22), none, (.mv (.c (.t (.int .i64 0))))⟩]) (.block 2 (.loop (.seq (.ops [⟨(some 23), none, (.bin .lss (.t 22) (.t 21))⟩]) (.seq (.cond (.t 23) .skip (.exit 2)) (.seq (.block 3 (.seq (.ops [⟨(some 24), none, (.mv (.t 22))⟩, ⟨(some 25), none, (.indexAddr 4 (.t 20) (.t 22))⟩, ⟨(some 26), none, (.load (some 4) (.t 25))⟩, ⟨(some 6), none, (.new [(.t (.str [])), (.t (.str [])), (.t (.str [])), (.t (.str []))])⟩, ⟨(some 5), none, (.mv (.t 24))⟩, ⟨none, none, (.store 4 (.t 6) (.t 26))⟩]) (.seq (.ops [⟨(some 27), none, (.mv (.t 3))⟩, ⟨(some 28), none, (.mv (.t 5))⟩, ⟨(some 29), none, (.bin .neq (.t 27) (.t 28))⟩, ⟨(some 30), none, (.mv (.t 29))⟩, ⟨(some 31), (some ⟨30, true⟩), (.fieldAddr 1 (.t 4))⟩, ⟨(some 32), (some ⟨30, true⟩), (.load none (.t 31))⟩, ⟨(some 33), (some ⟨30, true⟩), (.fieldAddr 1 (.t 6))⟩, ⟨(some 34), (some ⟨30, true⟩), (.load none (.t 33))⟩, ⟨(some 35), (some ⟨30, true⟩), (.bin .eql (.t 32) (.t 34))⟩, ⟨(some 36), (some ⟨30, true⟩), (.mv (.t 35))⟩, ⟨(some 37), (some ⟨36, false⟩), (.fieldAddr 2 (.t 4))⟩, ⟨(some 38), (some ⟨36, false⟩), (.load none (.t 37))⟩, ⟨(some 39), (some ⟨36, false⟩), (.fieldAddr 2 (.t 6))⟩, ⟨(some 40), (some ⟨36, false⟩), (.load none (.t 39))⟩, ⟨(some 41), (some ⟨36, false⟩), (.call (.c (.fn (.func 25) [])) [(.t 38), (.t 40)])⟩, ⟨(some 42), (some ⟨30, true⟩), (.pick (.t 36) (.c (.t (.bool true))) (.t 41))⟩, ⟨(some 43), none, (.pick (.t 30) (.t 42) (.c (.t (.bool false))))⟩]) (.cond (.t 43) (.seq (.ops [⟨(some 2), none, (.mv (.c (.t (.bool false))))⟩]) .ret) .skip)))) (.ops [⟨(some 44), none, (.bin .add (.t 22) (.c (.t (.int .i64 1))))⟩, ⟨(some 22), none, (.mv (.t 44))⟩])))))))))) (.ops [⟨(some 45), none, (.bin .add (.t 12) (.c (.t (.int .i64 1))))⟩, ⟨(some 12), none, (.mv (.t 45))⟩]))))))) (.seq (.ops [⟨(some 2), none, (.mv (.c (.t (.bool true))))⟩]) .ret))))
theorem k_impl_DeskApart : comp Try.prog 46 (Try.f14.body.getD .skip) = some c_impl_DeskApart := by kernel_rfl

theorem impl_DeskApartI (l : List Desk) (hl : Desk.OkS l)  (σ : Store) : ACalls Try.prog 14 [.t (tDeskS l)] σ fun rr σ' => rr = .t (.bool (apartI l)) ∧ σ' = σ := by
  refine acalls_of Try.func14 (by decide +kernel) (code := Try.f14.body.getD .skip) (n := 46) (c := c_impl_DeskApart) (rs := [(.tmp 2)]) rfl rfl k_impl_DeskApart (by kernel_rfl) (by simp) (fun hσ => ?_)
  have hh : True := trivial
  have fin : ∀ {u : V} {τ : Store}, u = .t (.bool (apartI l)) → u.lt σ.length = true → retV σ.length (fun rr σ' => rr = .t (.bool (apartI l)) ∧ σ' = σ) (σ ++ τ) (some [u]) := fun h h2 => ret_same rfl hσ h2 ⟨h, rfl⟩
  have fin0 : ∀ {u : V}, u = .t (.bool (apartI l)) → retV σ.length (fun rr σ' => rr = .t (.bool (apartI l)) ∧ σ' = σ) σ (some [u]) := fun h => ret_same0 rfl ⟨h, rfl⟩
  have y1 := hl.1
  simp -implicitDefEqProofs only [c_impl_DeskApart, List.length_map, tDeskS, S0, S1, S2, S3, S4, S5, S6, S7, S8, S9, S10, S11, S12, S13, S14, S15, opv, opvs, eget, env0, setD, lenStr, lenSl, isNilP, isNilS, putAt, if_true, if_false, reduceCtorEq, Nat.reduceLeDiff, Nat.reduceEqDiff, Nat.reduceSub, Nat.reduceMul, Nat.reduceAdd]
  refine cond_split (fun h0 => ?_) (fun h0 => ?_)
  · have hn : ¬ l.length ≤ 4 := by simp at h0; omega
    simp -implicitDefEqProofs only [S0, S1, S2, S3, S4, S5, S6, S7, S8, S9, S10, S11, S12, S13, S14, S15, opv, opvs, eget, env0, setD, lenStr, lenSl, isNilP, isNilS, putAt, if_true, if_false, reduceCtorEq, Nat.reduceLeDiff, Nat.reduceEqDiff, Nat.reduceSub, Nat.reduceMul, Nat.reduceAdd]
    first | exact fin0 (by simp [apartI, hn]) | exact fin (by simp [apartI, hn]) rfl
  have hn : l.length ≤ 4 := by simp at h0; omega
  simp -implicitDefEqProofs only [List.length_map, S0, S1, S2, S3, S4, S5, S6, S7, S8, S9, S10, S11, S12, S13, S14, S15, opv, opvs, eget, env0, setD, lenStr, lenSl, isNilP, isNilS, putAt, if_true, if_false, reduceCtorEq, Nat.reduceLeDiff, Nat.reduceEqDiff, Nat.reduceSub, Nat.reduceMul, Nat.reduceAdd]
  refine loop_p [12, 0, 10, 11] [0, 10, 11] (fun k : Nat => [(12, .t (.int .i64 (k : Nat)))]) (fun k => k ≤ l.length ∧ (l.zipIdx.take k).all (rowI l) = true) (fun k => l.length - k) 0 (by simp) ⟨Nat.zero_le _, rfl⟩ rfl ?_
  rintro k ⟨hk, hall⟩
  simp -implicitDefEqProofs only [keep, List.length_map, S0, S1, S2, S3, S4, S5, S6, S7, S8, S9, S10, S11, S12, S13, S14, S15, opv, opvs, eget, env0, setD, lenStr, lenSl, isNilP, isNilS, putAt, if_true, if_false, reduceCtorEq, Nat.reduceLeDiff, Nat.reduceEqDiff, Nat.reduceSub, Nat.reduceMul, Nat.reduceAdd]
  refine cond_split (fun h1 => ?_) (fun h1 => ?_)
  · obtain ⟨x, hx, hlt⟩ := at_of h1
    have hxo := hl.2 x (mem_at hx)
    have more := i64_succ (show k < 4611686018427387904 by omega)
    simp -implicitDefEqProofs only [hx, nat_nn, Nat.zero_le, List.getElem?_map, Option.map_some, List.length_map, Desk.ts, more, S0, S1, S2, S3, S4, S5, S6, S7, S8, S9, S10, S11, S12, S13, S14, S15, opv, opvs, eget, env0, setD, lenStr, lenSl, isNilP, isNilS, putAt, if_true, if_false, reduceCtorEq, Nat.reduceLeDiff, Nat.reduceEqDiff, Nat.reduceSub, Nat.reduceMul, Nat.reduceAdd]
    refine call_pure (impl_DeskOk x hxo _) ?_
    simp -implicitDefEqProofs only [S0, S1, S2, S3, S4, S5, S6, S7, S8, S9, S10, S11, S12, S13, S14, S15, opv, opvs, eget, env0, setD, lenStr, lenSl, isNilP, isNilS, putAt, if_true, if_false, reduceCtorEq, Nat.reduceLeDiff, Nat.reduceEqDiff, Nat.reduceSub, Nat.reduceMul, Nat.reduceAdd]
    refine cond_split (fun h2 => ?_) (fun h2 => ?_)
    · simp -implicitDefEqProofs only [S0, S1, S2, S3, S4, S5, S6, S7, S8, S9, S10, S11, S12, S13, S14, S15, opv, opvs, eget, env0, setD, lenStr, lenSl, isNilP, isNilS, putAt, if_true, if_false, reduceCtorEq, Nat.reduceLeDiff, Nat.reduceEqDiff, Nat.reduceSub, Nat.reduceMul, Nat.reduceAdd]
      have hno := all_not (l := l.zipIdx) (p := rowI l) (zip_at hx) (by have : dOk x = false := by simpa using h2
                                                                        simp [rowI, this])
      first | exact fin0 (by simp [apartI, hno]) | exact fin (by simp [apartI, hno]) rfl
    have hd : dOk x = true := by simpa using h2
    simp -implicitDefEqProofs only [List.length_map, S0, S1, S2, S3, S4, S5, S6, S7, S8, S9, S10, S11, S12, S13, S14, S15, opv, opvs, eget, env0, setD, lenStr, lenSl, isNilP, isNilS, putAt, if_true, if_false, reduceCtorEq, Nat.reduceLeDiff, Nat.reduceEqDiff, Nat.reduceSub, Nat.reduceMul, Nat.reduceAdd]
    refine loop_p [22, 0, 3, 4, 10, 11, 12, 20, 21] [0, 3, 4, 10, 11, 12, 20, 21] (fun j : Nat => [(22, .t (.int .i64 (j : Nat)))]) (fun j => j ≤ l.length ∧ (l.zipIdx.take j).all (pairI x k) = true) (fun j => l.length - j) 0 (by simp) ⟨Nat.zero_le _, rfl⟩ rfl ?_
    rintro j ⟨hj, hall2⟩
    simp -implicitDefEqProofs only [keep, List.length_map, S0, S1, S2, S3, S4, S5, S6, S7, S8, S9, S10, S11, S12, S13, S14, S15, opv, opvs, eget, env0, setD, lenStr, lenSl, isNilP, isNilS, putAt, if_true, if_false, reduceCtorEq, Nat.reduceLeDiff, Nat.reduceEqDiff, Nat.reduceSub, Nat.reduceMul, Nat.reduceAdd]
    refine cond_split (fun h3 => ?_) (fun h3 => ?_)
    · obtain ⟨y, hy, hlt2⟩ := at_of h3
      have more2 := i64_succ (show j < 4611686018427387904 by omega)
      simp -implicitDefEqProofs only [hx, hy, nat_nn, Nat.zero_le, List.getElem?_map, Option.map_some, List.length_map, Desk.ts, more2, S0, S1, S2, S3, S4, S5, S6, S7, S8, S9, S10, S11, S12, S13, S14, S15, opv, opvs, eget, env0, setD, lenStr, lenSl, isNilP, isNilS, putAt, if_true, if_false, reduceCtorEq, Nat.reduceLeDiff, Nat.reduceEqDiff, Nat.reduceSub, Nat.reduceMul, Nat.reduceAdd]
      have hh : True := trivial
      repeat' (first
        | ((with_reducible refine cond_known (fun h => ?_) (fun h => ?_)) <;> (replace hh := And.intro h hh; clear h; simp -implicitDefEqProofs only [hh, cond_t, cond_f, hx, hy, nat_nn, Nat.zero_le, List.getElem?_map, Option.map_some, List.length_map, Desk.ts, more2, S0, S1, S2, S3, S4, S5, S6, S7, S8, S9, S10, S11, S12, S13, S14, S15, opv, opvs, eget, env0, setD, lenStr, lenSl, isNilP, isNilS, putAt, if_true, if_false, reduceCtorEq, Nat.reduceLeDiff, Nat.reduceEqDiff, Nat.reduceSub, Nat.reduceMul, Nat.reduceAdd]))
        | ((with_reducible refine call_pure (strings_HasPrefix _ _ _) ?_); simp -implicitDefEqProofs only [hh, cond_t, cond_f, hx, hy, nat_nn, Nat.zero_le, List.getElem?_map, Option.map_some, List.length_map, Desk.ts, more2, S0, S1, S2, S3, S4, S5, S6, S7, S8, S9, S10, S11, S12, S13, S14, S15, opv, opvs, eget, env0, setD, lenStr, lenSl, isNilP, isNilS, putAt, if_true, if_false, reduceCtorEq, Nat.reduceLeDiff, Nat.reduceEqDiff, Nat.reduceSub, Nat.reduceMul, Nat.reduceAdd])
        | ((first | refine fin0 (tb ?_) | refine fin (tb ?_) rfl); (try simp only [Known] at hh); have hno2 := all_not (l := l.zipIdx) (p := pairI x k) (zip_at hy) (by grind [pairI]); have hno := all_not (l := l.zipIdx) (p := rowI l) (zip_at hx) (by simp [rowI, hno2]); simp [apartI, hno])
        | (first | exact lk_p0 (j + 1) (by simp) (by simp) (by omega) ⟨by omega, all_step (zip_at hy) hall2 (by (try simp only [Known] at hh); grind [pairI])⟩ rfl | exact lk_p (j + 1) (by simp) (by simp) hσ rfl (by omega) ⟨by omega, all_step (zip_at hy) hall2 (by (try simp only [Known] at hh); grind [pairI])⟩ (by simp [ltE, keep, eget, V.lt]) rfl | exact lk_pm (j + 1) (Nat.le_refl _) (by simp) hσ rfl rfl (by omega) ⟨by omega, all_step (zip_at hy) hall2 (by (try simp only [Known] at hh); grind [pairI])⟩ (by simp [ltE, keep, eget, V.lt]) rfl))
    · have hjj := end_of h3 hj
      have hp : l.zipIdx.all (pairI x k) = true := all_len hall2 (hjj.trans (by simp))
      simp -implicitDefEqProofs only [more, S0, S1, S2, S3, S4, S5, S6, S7, S8, S9, S10, S11, S12, S13, S14, S15, opv, opvs, eget, env0, setD, lenStr, lenSl, isNilP, isNilS, putAt, if_true, if_false, reduceCtorEq, Nat.reduceLeDiff, Nat.reduceEqDiff, Nat.reduceSub, Nat.reduceMul, Nat.reduceAdd]
      first | exact lk_p0 (k + 1) (by simp) (by simp) (by omega) ⟨by omega, all_step (zip_at hx) hall (by simp [rowI, hd, hp])⟩ rfl | exact lk_p (k + 1) (by simp) (by simp) hσ rfl (by omega) ⟨by omega, all_step (zip_at hx) hall (by simp [rowI, hd, hp])⟩ (by simp [ltE, keep, eget, V.lt]) rfl | exact lk_pm (k + 1) (Nat.le_refl _) (by simp) hσ rfl rfl (by omega) ⟨by omega, all_step (zip_at hx) hall (by simp [rowI, hd, hp])⟩ (by simp [ltE, keep, eget, V.lt]) rfl
  · replace hall := all_len hall ((end_of h1 hk).trans (by simp))
    simp -implicitDefEqProofs only [List.length_map, S0, S1, S2, S3, S4, S5, S6, S7, S8, S9, S10, S11, S12, S13, S14, S15, opv, opvs, eget, env0, setD, lenStr, lenSl, isNilP, isNilS, putAt, if_true, if_false, reduceCtorEq, Nat.reduceLeDiff, Nat.reduceEqDiff, Nat.reduceSub, Nat.reduceMul, Nat.reduceAdd]
    first | exact fin0 (by simp [apartI, hall, hn]) | exact fin (by simp [apartI, hall, hn]) rfl

theorem impl_DeskApart (l : List Desk) (hl : Desk.OkS l) (σ : Store) : ACalls Try.prog 14 [.t (tDeskS l)] σ fun rr σ' => rr = .t (.bool (apartS l)) ∧ σ' = σ := by
  rw [← apart_eq]; exact impl_DeskApartI l hl σ
end Go.Proofs.Ytbbhhndbhioacaa.W
