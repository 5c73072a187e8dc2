/- The laws' own helpers (sizes, copies, comparing) for lists, proved once for all element types. Conditions: none (a library of lemmas). -/
import Derived.Test.YtleilaipdhmgeaaAbQ
set_option linter.unusedSimpArgs false
set_option linter.unusedVariables false
set_option linter.defProp false
namespace Go.Ab

/-- Function g has this code. -/
def Is (P : Program) (g nt : Nat) (rs : List RS) (c : C) : Prop := ∃ fn code, P.funcs[g]? = some fn ∧ (fn.name == "runtime.NumGoroutine") = false ∧ fn.body = some code ∧ fn.ntmps = nt ∧ comp P nt code = some c ∧ resSlots P fn.results.toList = some rs
theorem acalls_is {P : Program} {g nt : Nat} {rs : List RS} {c : C} {args : List V} {σ : Store} {R : V → Store → Prop} (h : Is P g nt rs c) (ha : args.length ≤ nt) (hv : ltσ σ.length σ = true → vc P σ.length c (retK rs σ.length R) ⟨.go, env0 0 args, σ⟩) : ACalls P g args σ R := by
  obtain ⟨fn, code, h1, h2, h3, h4, h5, h6⟩ := h
  exact acalls_of h1 h2 h3 h4 h5 h6 ha hv

def Wi (is : List Nat) (a b : Nat) : Prop := is.Nodup ∧ ∀ i ∈ is, a ≤ i ∧ i < b
theorem Wi.nil {a b : Nat} : Wi [] a b := ⟨List.nodup_nil, by simp⟩
theorem Wi.app {i j : List Nat} {a b b' c : Nat} (h : Wi i a b) (k : Wi j b' c) (hb : b ≤ b') (hab : a ≤ b') (hbc : b ≤ c) : Wi (i ++ j) a c := by
  refine ⟨List.nodup_append.2 ⟨h.1, k.1, fun x hx y hy he => ?_⟩, fun x hx => ?_⟩
  · have := h.2 x hx; have := k.2 y hy; omega
  · rcases List.mem_append.1 hx with hx | hx
    · have := h.2 x hx; omega
    · have := k.2 x hx; omega
theorem Wi.cons {j : List Nat} {i a b c : Nat} (k : Wi j b c) (h1 : i < b) (h2 : a ≤ i) (h3 : i < c) : Wi (i :: j) a c := by
  refine ⟨List.nodup_cons.2 ⟨fun h => ?_, k.1⟩, fun x hx => ?_⟩
  · have := k.2 i h; omega
  · rcases List.mem_cons.1 hx with rfl | hx
    · omega
    · have := k.2 x hx; omega
theorem Wi.mono {is : List Nat} {a b a' b' : Nat} (h : Wi is a b) (h1 : a' ≤ a) (h2 : b ≤ b') : Wi is a' b' := ⟨h.1, fun i hi => by have := h.2 i hi; omega⟩

def SzR (sz : Nat) (left : Int) (σ : Store) (r : V) (σ' : Store) : Prop := (∃ m : Int, r = .t (.int .i64 m) ∧ m ≤ left ∧ (0 ≤ m → (sz : Int) + m ≤ left)) ∧ σ' = σ
def TrueR (σ : Store) (r : V) (σ' : Store) : Prop := r = .t (.bool true) ∧ σ' = σ
def ToR (t : T) (σ : Store) (r : V) (σ' : Store) : Prop := ∃ τ is, σ' = σ ++ τ ∧ Own σ' t r is ∧ Wi is σ.length σ'.length
def ToLR (ts : List T) (σ : Store) (r : V) (σ' : Store) : Prop := ∃ us τ is, r = .agg us ∧ σ' = σ ++ τ ∧ OwnL σ' ts us is ∧ Wi is σ.length σ'.length
def SzLOk (P : Program) (f : Nat) (cs : List Sh) : Prop := ∀ ts left σ, T.isL cs ts → 0 ≤ left → left ≤ 1048576 → ACalls P f [.agg (ts.map .t), .t (.int .i64 left)] σ (SzR (T.sizeL ts) left σ)
def SzOk (P : Program) (f : Nat) (c : Sh) : Prop := ∀ t left σ, T.is c t → 0 ≤ left → left ≤ 1048576 → ACalls P f [.t t, .t (.int .i64 left)] σ (SzR t.size left σ)
def ToLOk (P : Program) (f : Nat) (cs : List Sh) : Prop := ∀ ts σ, T.isL cs ts → T.sizeL ts ≤ 1048576 → ACalls P f [.agg (ts.map .t)] σ (ToLR ts σ)
def ToOk (P : Program) (f : Nat) (c : Sh) : Prop := ∀ t σ, T.is c t → t.size ≤ 1048576 → ACalls P f [.t t] σ (ToR t σ)
/-- What comparing asks of a tree: nothing longer than a machine holds. -/
def EqLOk (P : Program) (f : Nat) (cs : List Sh) : Prop := ∀ ts σ, T.isL cs ts → T.sizeL ts ≤ 1099511627776 → ACalls P f [.agg (ts.map .t), .agg (ts.map .t)] σ (TrueR σ)
def EqOk (P : Program) (f : Nat) (c : Sh) : Prop := ∀ t σ, T.is c t → t.size ≤ 1099511627776 → ACalls P f [.t t, .t t] σ (TrueR σ)

theorem mem_at {α : Type} {l : List α} {k : Nat} {x : α} (h : l[k]? = some x) : x ∈ l := List.mem_of_getElem? h
theorem take_map_t {r : List T} {n : Nat} (h : r.length = n) : ((r.take n).map V.t) = r.map V.t := by rw [List.take_of_length_le (by omega)]
theorem nat_nn (k : Nat) : (0 ≤ (k : Int)) = True := eq_true (by omega)
theorem ne_self {α : Type} [BEq α] [LawfulBEq α] (a : α) : (a != a) = false := bne_self_eq_false a
/-- The end: all that was made goes. -/
theorem fin_drop {b : Nat} {R : V → Store → Prop} {σ τ : Store} {us : List V} (hb : σ.length = b) (hσ : ltσ b σ = true) (hu : (mkRes us).lt b = true) (h : R (mkRes us) σ) : retV b R (σ ++ τ) (some us) := ret_same hb hσ hu h
/-- The end: all that was made stays. -/
theorem fin_keep {b : Nat} {R : V → Store → Prop} {σ : Store} {us : List V} (hb : b ≤ σ.length) (h : R (mkRes us) σ) : retV b R σ (some us) :=
  ⟨σ.length, ⟨hb, .inl (Nat.le_refl _)⟩, by simpa using h⟩
/- 27 [(.tmp 4)] -/
def tSzS (n f : Nat) : C := (.seq (.ops [⟨(some 4), none, (.mv (.c (.t (.int .i64 0))))⟩]) (.seq (.ops [⟨(some 6), none, (.mv (.t 1))⟩, ⟨(some 7), none, (.mv (.t 0))⟩, ⟨(some 8), none, (.len false (.t 7))⟩, ⟨(some 9), none, (.bin .sub (.t 6) (.t 8))⟩, ⟨(some 1), none, (.mv (.t 9))⟩]) (.seq (.seq (.ops [⟨(some 10), none, (.mv (.t 1))⟩, ⟨(some 11), none, (.bin .lss (.t 10) (.c (.t (.int .i64 0))))⟩]) (.cond (.t 11) (.seq (.ops [⟨(some 4), none, (.mv (.c (.t (.int .i64 (-1)))))⟩]) .ret) .skip)) (.seq (.seq (.ops [⟨(some 5), none, (.mv (.c (.t (.int .i64 0))))⟩]) (.block 0 (.loop (.seq (.seq (.ops [⟨(some 12), none, (.mv (.t 5))⟩, ⟨(some 13), none, (.mv (.t 0))⟩, ⟨(some 14), none, (.len false (.t 13))⟩, ⟨(some 15), none, (.bin .lss (.t 12) (.t 14))⟩]) (.cond (.t 15) .skip (.exit 0))) (.seq (.block 1 (.seq (.ops [⟨(some 18), none, (.mv (.t 0))⟩, ⟨(some 19), none, (.mv (.t 5))⟩, ⟨(some 20), none, (.indexAddr n (.t 18) (.t 19))⟩, ⟨(some 21), none, (.load (some n) (.t 20))⟩, ⟨(some 22), none, (.mv (.t 1))⟩, ⟨(some 23), none, (.call (.c (.fn (.func f) [])) [(.t 21), (.t 22)])⟩, ⟨(some 1), none, (.mv (.t 23))⟩]) (.seq (.ops [⟨(some 24), none, (.mv (.t 1))⟩, ⟨(some 25), none, (.bin .lss (.t 24) (.c (.t (.int .i64 0))))⟩]) (.cond (.t 25) (.seq (.ops [⟨(some 4), none, (.mv (.c (.t (.int .i64 (-1)))))⟩]) .ret) .skip)))) (.ops [⟨(some 16), none, (.mv (.t 5))⟩, ⟨(some 17), none, (.bin .add (.t 16) (.c (.t (.int .i64 1))))⟩, ⟨(some 5), none, (.mv (.t 17))⟩])))))) (.seq (.ops [⟨(some 26), none, (.mv (.t 1))⟩, ⟨(some 4), none, (.mv (.t 26))⟩]) .ret)))))
/- 28 [(.tmp 4)] -/
def tSzStr : C := (.seq (.ops [⟨(some 4), none, (.mv (.c (.t (.int .i64 0))))⟩]) (.seq (.ops [⟨(some 6), none, (.mv (.t 1))⟩, ⟨(some 7), none, (.mv (.t 0))⟩, ⟨(some 8), none, (.len false (.t 7))⟩, ⟨(some 9), none, (.bin .sub (.t 6) (.t 8))⟩, ⟨(some 1), none, (.mv (.t 9))⟩]) (.seq (.seq (.ops [⟨(some 10), none, (.mv (.t 1))⟩, ⟨(some 11), none, (.bin .lss (.t 10) (.c (.t (.int .i64 0))))⟩]) (.cond (.t 11) (.seq (.ops [⟨(some 4), none, (.mv (.c (.t (.int .i64 (-1)))))⟩]) .ret) .skip)) (.seq (.seq (.ops [⟨(some 5), none, (.mv (.c (.t (.int .i64 0))))⟩]) (.block 0 (.loop (.seq (.seq (.ops [⟨(some 12), none, (.mv (.t 5))⟩, ⟨(some 13), none, (.mv (.t 0))⟩, ⟨(some 14), none, (.len false (.t 13))⟩, ⟨(some 15), none, (.bin .lss (.t 12) (.t 14))⟩]) (.cond (.t 15) .skip (.exit 0))) (.seq (.block 1 (.seq (.ops [⟨(some 18), none, (.mv (.t 1))⟩, ⟨(some 19), none, (.mv (.t 0))⟩, ⟨(some 20), none, (.mv (.t 5))⟩, ⟨(some 21), none, (.indexAddr 1 (.t 19) (.t 20))⟩, ⟨(some 22), none, (.load none (.t 21))⟩, ⟨(some 23), none, (.len true (.t 22))⟩, ⟨(some 24), none, (.bin .sub (.t 18) (.t 23))⟩, ⟨(some 1), none, (.mv (.t 24))⟩]) (.seq (.ops [⟨(some 25), none, (.mv (.t 1))⟩, ⟨(some 26), none, (.bin .lss (.t 25) (.c (.t (.int .i64 0))))⟩]) (.cond (.t 26) (.seq (.ops [⟨(some 4), none, (.mv (.c (.t (.int .i64 (-1)))))⟩]) .ret) .skip)))) (.ops [⟨(some 16), none, (.mv (.t 5))⟩, ⟨(some 17), none, (.bin .add (.t 16) (.c (.t (.int .i64 1))))⟩, ⟨(some 5), none, (.mv (.t 17))⟩])))))) (.seq (.ops [⟨(some 27), none, (.mv (.t 1))⟩, ⟨(some 4), none, (.mv (.t 27))⟩]) .ret)))))
/- 12 [(.tmp 4)] -/
def tSzInt : C := (.seq (.ops [⟨(some 4), none, (.mv (.c (.t (.int .i64 0))))⟩]) (.seq (.ops [⟨(some 5), none, (.mv (.t 1))⟩, ⟨(some 6), none, (.mv (.t 0))⟩, ⟨(some 7), none, (.len false (.t 6))⟩, ⟨(some 8), none, (.bin .sub (.t 5) (.t 7))⟩, ⟨(some 1), none, (.mv (.t 8))⟩]) (.seq (.seq (.ops [⟨(some 9), none, (.mv (.t 1))⟩, ⟨(some 10), none, (.bin .lss (.t 9) (.c (.t (.int .i64 0))))⟩]) (.cond (.t 10) (.seq (.ops [⟨(some 4), none, (.mv (.c (.t (.int .i64 (-1)))))⟩]) .ret) .skip)) (.seq (.ops [⟨(some 11), none, (.mv (.t 1))⟩, ⟨(some 4), none, (.mv (.t 11))⟩]) .ret))))
/- 23 [(.tmp 2)] -/
def tToS (n bys f : Nat) (Z : List V) : C := (.seq (.ops [⟨(some 2), none, (.mv (.c .nils))⟩]) (.seq (.ops [⟨(some 5), none, (.mv (.t 0))⟩, ⟨(some 6), none, (.len false (.t 5))⟩, ⟨(some 7), none, (.mkSl n bys Z (.t 6) (.t 6))⟩, ⟨(some 3), none, (.mv (.t 7))⟩]) (.seq (.seq (.ops [⟨(some 4), none, (.mv (.c (.t (.int .i64 0))))⟩]) (.block 0 (.loop (.seq (.seq (.ops [⟨(some 8), none, (.mv (.t 4))⟩, ⟨(some 9), none, (.mv (.t 0))⟩, ⟨(some 10), none, (.len false (.t 9))⟩, ⟨(some 11), none, (.bin .lss (.t 8) (.t 10))⟩]) (.cond (.t 11) .skip (.exit 0))) (.seq (.block 1 (.ops [⟨(some 14), none, (.mv (.t 3))⟩, ⟨(some 15), none, (.mv (.t 4))⟩, ⟨(some 16), none, (.mv (.t 0))⟩, ⟨(some 17), none, (.mv (.t 4))⟩, ⟨(some 18), none, (.indexAddr n (.t 16) (.t 17))⟩, ⟨(some 19), none, (.load (some n) (.t 18))⟩, ⟨(some 20), none, (.call (.c (.fn (.func f) [])) [(.t 19)])⟩, ⟨(some 21), none, (.indexAddr n (.t 14) (.t 15))⟩, ⟨none, none, (.store n (.t 21) (.t 20))⟩])) (.ops [⟨(some 12), none, (.mv (.t 4))⟩, ⟨(some 13), none, (.bin .add (.t 12) (.c (.t (.int .i64 1))))⟩, ⟨(some 4), none, (.mv (.t 13))⟩])))))) (.seq (.ops [⟨(some 22), none, (.mv (.t 3))⟩, ⟨(some 2), none, (.mv (.t 22))⟩]) .ret))))
/- 22 [(.tmp 2)] -/
def tTo1 (bys : Nat) (Z : List V) : C := (.seq (.ops [⟨(some 2), none, (.mv (.c .nils))⟩]) (.seq (.ops [⟨(some 5), none, (.mv (.t 0))⟩, ⟨(some 6), none, (.len false (.t 5))⟩, ⟨(some 7), none, (.mkSl 1 bys Z (.t 6) (.t 6))⟩, ⟨(some 3), none, (.mv (.t 7))⟩]) (.seq (.seq (.ops [⟨(some 4), none, (.mv (.c (.t (.int .i64 0))))⟩]) (.block 0 (.loop (.seq (.seq (.ops [⟨(some 8), none, (.mv (.t 4))⟩, ⟨(some 9), none, (.mv (.t 0))⟩, ⟨(some 10), none, (.len false (.t 9))⟩, ⟨(some 11), none, (.bin .lss (.t 8) (.t 10))⟩]) (.cond (.t 11) .skip (.exit 0))) (.seq (.block 1 (.ops [⟨(some 14), none, (.mv (.t 3))⟩, ⟨(some 15), none, (.mv (.t 4))⟩, ⟨(some 16), none, (.mv (.t 0))⟩, ⟨(some 17), none, (.mv (.t 4))⟩, ⟨(some 18), none, (.indexAddr 1 (.t 16) (.t 17))⟩, ⟨(some 19), none, (.load none (.t 18))⟩, ⟨(some 20), none, (.indexAddr 1 (.t 14) (.t 15))⟩, ⟨none, none, (.store 1 (.t 20) (.t 19))⟩])) (.ops [⟨(some 12), none, (.mv (.t 4))⟩, ⟨(some 13), none, (.bin .add (.t 12) (.c (.t (.int .i64 1))))⟩, ⟨(some 4), none, (.mv (.t 13))⟩])))))) (.seq (.ops [⟨(some 21), none, (.mv (.t 3))⟩, ⟨(some 2), none, (.mv (.t 21))⟩]) .ret))))
/- 27 [(.tmp 4)] -/
def tEqS (n f : Nat) : C := (.seq (.ops [⟨(some 4), none, (.mv (.c (.t (.bool false))))⟩]) (.seq (.seq (.ops [⟨(some 6), none, (.mv (.t 0))⟩, ⟨(some 7), none, (.len false (.t 6))⟩, ⟨(some 8), none, (.mv (.t 1))⟩, ⟨(some 9), none, (.len false (.t 8))⟩, ⟨(some 10), none, (.bin .neq (.t 7) (.t 9))⟩]) (.cond (.t 10) (.seq (.ops [⟨(some 4), none, (.mv (.c (.t (.bool false))))⟩]) .ret) .skip)) (.seq (.seq (.ops [⟨(some 5), none, (.mv (.c (.t (.int .i64 0))))⟩]) (.block 0 (.loop (.seq (.seq (.ops [⟨(some 11), none, (.mv (.t 5))⟩, ⟨(some 12), none, (.mv (.t 0))⟩, ⟨(some 13), none, (.len false (.t 12))⟩, ⟨(some 14), none, (.bin .lss (.t 11) (.t 13))⟩]) (.cond (.t 14) .skip (.exit 0))) (.seq (.block 1 (.seq (.drawn [(.mk 0 false ⟨(some 17), none, (.mv (.t 0))⟩), (.mk 1 false ⟨(some 18), none, (.mv (.t 5))⟩), (.mk 2 false ⟨(some 19), none, (.indexAddr n (.t 17) (.t 18))⟩), (.mk 3 false ⟨(some 20), none, (.load (some n) (.t 19))⟩), (.mk 4 false ⟨(some 21), none, (.mv (.t 1))⟩), (.mk 5 false ⟨(some 22), none, (.mv (.t 5))⟩), (.mk 6 false ⟨(some 23), none, (.indexAddr n (.t 21) (.t 22))⟩), (.mk 7 false ⟨(some 24), none, (.load (some n) (.t 23))⟩), (.mk 8 false ⟨(some 25), none, (.call (.c (.fn (.func f) [])) [(.t 20), (.t 24)])⟩), (.mk 9 false ⟨(some 26), none, (.un .not (.t 25))⟩)]) (.cond (.t 26) (.seq (.ops [⟨(some 4), none, (.mv (.c (.t (.bool false))))⟩]) .ret) .skip))) (.ops [⟨(some 15), none, (.mv (.t 5))⟩, ⟨(some 16), none, (.bin .add (.t 15) (.c (.t (.int .i64 1))))⟩, ⟨(some 5), none, (.mv (.t 16))⟩])))))) (.seq (.ops [⟨(some 4), none, (.mv (.c (.t (.bool true))))⟩]) .ret))))
/- 26 [(.tmp 4)] -/
def tEq1 : C := (.seq (.ops [⟨(some 4), none, (.mv (.c (.t (.bool false))))⟩]) (.seq (.seq (.ops [⟨(some 6), none, (.mv (.t 0))⟩, ⟨(some 7), none, (.len false (.t 6))⟩, ⟨(some 8), none, (.mv (.t 1))⟩, ⟨(some 9), none, (.len false (.t 8))⟩, ⟨(some 10), none, (.bin .neq (.t 7) (.t 9))⟩]) (.cond (.t 10) (.seq (.ops [⟨(some 4), none, (.mv (.c (.t (.bool false))))⟩]) .ret) .skip)) (.seq (.seq (.ops [⟨(some 5), none, (.mv (.c (.t (.int .i64 0))))⟩]) (.block 0 (.loop (.seq (.seq (.ops [⟨(some 11), none, (.mv (.t 5))⟩, ⟨(some 12), none, (.mv (.t 0))⟩, ⟨(some 13), none, (.len false (.t 12))⟩, ⟨(some 14), none, (.bin .lss (.t 11) (.t 13))⟩]) (.cond (.t 14) .skip (.exit 0))) (.seq (.block 1 (.seq (.drawn [(.mk 0 false ⟨(some 17), none, (.mv (.t 0))⟩), (.mk 1 false ⟨(some 18), none, (.mv (.t 5))⟩), (.mk 2 false ⟨(some 19), none, (.indexAddr 1 (.t 17) (.t 18))⟩), (.mk 3 false ⟨(some 20), none, (.load none (.t 19))⟩), (.mk 4 false ⟨(some 21), none, (.mv (.t 1))⟩), (.mk 5 false ⟨(some 22), none, (.mv (.t 5))⟩), (.mk 6 false ⟨(some 23), none, (.indexAddr 1 (.t 21) (.t 22))⟩), (.mk 7 false ⟨(some 24), none, (.load none (.t 23))⟩), (.mk 8 false ⟨(some 25), none, (.bin .neq (.t 20) (.t 24))⟩)]) (.cond (.t 25) (.seq (.ops [⟨(some 4), none, (.mv (.c (.t (.bool false))))⟩]) .ret) .skip))) (.ops [⟨(some 15), none, (.mv (.t 5))⟩, ⟨(some 16), none, (.bin .add (.t 15) (.c (.t (.int .i64 1))))⟩, ⟨(some 5), none, (.mv (.t 16))⟩])))))) (.seq (.ops [⟨(some 4), none, (.mv (.c (.t (.bool true))))⟩]) .ret))))

section
variable {P : Program} {f g n : Nat} {cs : List Sh}

theorem szS_ok (hn : cs.length = n) (hi : Is P g 27 [.tmp 4] (tSzS n f)) (hf : SzLOk P f cs) : SzOk P g (.sl n cs) := by
  rintro t left σ ht h0 h1
  simp only [T.is] at ht
  obtain ⟨rows, rfl, hl, hr⟩ := ht
  refine acalls_is hi (by simp) (fun hσ => ?_)
  simp only [maxLen] at hl
  have w1 : IntKind.i64.wrap (left - rows.length) = left - rows.length := IntWalk.i64_in _ (by omega)
  simp -implicitDefEqProofs only [tSzS, w1, S0, S1, S2, S3, S4, S5, S6, S7, S8, S9, S10, S11, S12, S13, S14, S15, opv, opvs, eget, env0, setD, lenStr, lenSl, isNilP, isNilS, putAt, if_true, if_false, reduceCtorEq, Nat.reduceLeDiff, Nat.reduceEqDiff, Nat.reduceSub, Nat.reduceMul, Nat.reduceAdd]
  refine cond_split (fun h => ?_) (fun h => ?_)
  · simp -implicitDefEqProofs only [S0, S1, S2, S3, S4, S5, S6, S7, S8, S9, S10, S11, S12, S13, S14, S15, opv, opvs, eget, env0, setD, lenStr, lenSl, isNilP, isNilS, putAt, if_true, if_false, reduceCtorEq, Nat.reduceLeDiff, Nat.reduceEqDiff, Nat.reduceSub, Nat.reduceMul, Nat.reduceAdd]
    exact ret_same0 rfl ⟨⟨_, rfl, by omega, by omega⟩, rfl⟩
  simp only [decide_eq_false_iff_not, Int.not_lt] at h
  simp -implicitDefEqProofs only [S0, S1, S2, S3, S4, S5, S6, S7, S8, S9, S10, S11, S12, S13, S14, S15, opv, opvs, eget, env0, setD, lenStr, lenSl, isNilP, isNilS, putAt, if_true, if_false, reduceCtorEq, Nat.reduceLeDiff, Nat.reduceEqDiff, Nat.reduceSub, Nat.reduceMul, Nat.reduceAdd]
  refine loop_p [1, 5, 0] [0] (fun x : Nat × Int => [(1, .t (.int .i64 x.2)), (5, .t (.int .i64 (x.1 : Nat)))]) (fun x => x.1 ≤ rows.length ∧ 0 ≤ x.2 ∧ (T.sizeR (rows.take x.1) : Int) + rows.length + x.2 ≤ left) (fun x => rows.length - x.1) (0, left - rows.length) (Nat.le_refl _) ⟨Nat.zero_le _, h, by simp only [List.take_zero, sizeR_nil]; omega⟩ rfl ?_
  rintro ⟨k, m⟩ ⟨hk, hm0, hm⟩
  simp only at hk hm0 hm
  simp -implicitDefEqProofs only [keep, S0, S1, S2, S3, S4, S5, S6, S7, S8, S9, S10, S11, S12, S13, S14, S15, opv, opvs, eget, env0, setD, lenStr, lenSl, isNilP, isNilS, putAt, if_true, if_false, reduceCtorEq, Nat.reduceLeDiff, Nat.reduceEqDiff, Nat.reduceSub, Nat.reduceMul, Nat.reduceAdd]
  refine cond_split (fun h2 => ?_) (fun h2 => ?_)
  · obtain ⟨r, hx, hlt⟩ := at_of h2
    have hrl := T.isL_len (hr r (mem_at hx))
    have hrn : n ≤ r.length := by omega
    simp -implicitDefEqProofs only [hx, nat_nn, hrn, take_map_t (hrl.trans hn), i64_succ (show k < 4611686018427387904 by omega), S0, S1, S2, S3, S4, S5, S6, S7, S8, S9, S10, S11, S12, S13, S14, S15, opv, opvs, eget, env0, setD, lenStr, lenSl, isNilP, isNilS, putAt, if_true, if_false, reduceCtorEq, Nat.reduceLeDiff, Nat.reduceEqDiff, Nat.reduceSub, Nat.reduceMul, Nat.reduceAdd]
    refine call_by (by rw [List.append_nil]; exact hf r m _ (hr r (mem_at hx)) hm0 (by omega)) ?_
    rintro v σ' ⟨⟨m', rfl, hm', hs⟩, rfl⟩
    simp -implicitDefEqProofs only [S0, S1, S2, S3, S4, S5, S6, S7, S8, S9, S10, S11, S12, S13, S14, S15, opv, opvs, eget, env0, setD, lenStr, lenSl, isNilP, isNilS, putAt, if_true, if_false, reduceCtorEq, Nat.reduceLeDiff, Nat.reduceEqDiff, Nat.reduceSub, Nat.reduceMul, Nat.reduceAdd]
    refine cond_split (fun h3 => ?_) (fun h3 => ?_)
    · simp -implicitDefEqProofs only [S0, S1, S2, S3, S4, S5, S6, S7, S8, S9, S10, S11, S12, S13, S14, S15, opv, opvs, eget, env0, setD, lenStr, lenSl, isNilP, isNilS, putAt, if_true, if_false, reduceCtorEq, Nat.reduceLeDiff, Nat.reduceEqDiff, Nat.reduceSub, Nat.reduceMul, Nat.reduceAdd]
      simp only [decide_eq_true_eq] at h3
      exact ret_same0 rfl ⟨⟨_, rfl, by omega, by omega⟩, rfl⟩
    · simp only [decide_eq_false_iff_not, Int.not_lt] at h3
      have := hs h3
      simp -implicitDefEqProofs only [i64_succ (show k < 4611686018427387904 by omega), S0, S1, S2, S3, S4, S5, S6, S7, S8, S9, S10, S11, S12, S13, S14, S15, opv, opvs, eget, env0, setD, lenStr, lenSl, isNilP, isNilS, putAt, if_true, if_false, reduceCtorEq, Nat.reduceLeDiff, Nat.reduceEqDiff, Nat.reduceSub, Nat.reduceMul, Nat.reduceAdd]
      exact lk_p0 (k + 1, m') (Nat.le_refl _) rfl (by simp only; omega) ⟨by simp only; omega, h3, by simp only [sizeR_step hx]; omega⟩ rfl
  · have hkk := end_of h2 hk
    simp -implicitDefEqProofs only [S0, S1, S2, S3, S4, S5, S6, S7, S8, S9, S10, S11, S12, S13, S14, S15, opv, opvs, eget, env0, setD, lenStr, lenSl, isNilP, isNilS, putAt, if_true, if_false, reduceCtorEq, Nat.reduceLeDiff, Nat.reduceEqDiff, Nat.reduceSub, Nat.reduceMul, Nat.reduceAdd]
    refine ret_same0 rfl ⟨⟨_, rfl, by omega, fun _ => ?_⟩, rfl⟩
    rw [hkk, List.take_length] at hm
    simp only [size_lst]
    omega

theorem szStr_ok (hi : Is P g 28 [.tmp 4] tSzStr) : SzOk P g (.sl 1 [.str]) := by
  rintro t left σ ht h0 h1
  simp only [T.is] at ht
  obtain ⟨rows, rfl, hl, hr⟩ := ht
  refine acalls_is hi (by simp) (fun hσ => ?_)
  simp only [maxLen] at hl
  have w1 : IntKind.i64.wrap (left - rows.length) = left - rows.length := IntWalk.i64_in _ (by omega)
  simp -implicitDefEqProofs only [tSzStr, w1, S0, S1, S2, S3, S4, S5, S6, S7, S8, S9, S10, S11, S12, S13, S14, S15, opv, opvs, eget, env0, setD, lenStr, lenSl, isNilP, isNilS, putAt, if_true, if_false, reduceCtorEq, Nat.reduceLeDiff, Nat.reduceEqDiff, Nat.reduceSub, Nat.reduceMul, Nat.reduceAdd]
  refine cond_split (fun h => ?_) (fun h => ?_)
  · simp -implicitDefEqProofs only [S0, S1, S2, S3, S4, S5, S6, S7, S8, S9, S10, S11, S12, S13, S14, S15, opv, opvs, eget, env0, setD, lenStr, lenSl, isNilP, isNilS, putAt, if_true, if_false, reduceCtorEq, Nat.reduceLeDiff, Nat.reduceEqDiff, Nat.reduceSub, Nat.reduceMul, Nat.reduceAdd]
    exact ret_same0 rfl ⟨⟨_, rfl, by omega, by omega⟩, rfl⟩
  simp only [decide_eq_false_iff_not, Int.not_lt] at h
  simp -implicitDefEqProofs only [S0, S1, S2, S3, S4, S5, S6, S7, S8, S9, S10, S11, S12, S13, S14, S15, opv, opvs, eget, env0, setD, lenStr, lenSl, isNilP, isNilS, putAt, if_true, if_false, reduceCtorEq, Nat.reduceLeDiff, Nat.reduceEqDiff, Nat.reduceSub, Nat.reduceMul, Nat.reduceAdd]
  refine loop_p [1, 5, 0] [0] (fun x : Nat × Int => [(1, .t (.int .i64 x.2)), (5, .t (.int .i64 (x.1 : Nat)))]) (fun x => x.1 ≤ rows.length ∧ 0 ≤ x.2 ∧ (T.sizeR (rows.take x.1) : Int) + rows.length + x.2 ≤ left) (fun x => rows.length - x.1) (0, left - rows.length) (Nat.le_refl _) ⟨Nat.zero_le _, h, by simp only [List.take_zero, sizeR_nil]; omega⟩ rfl ?_
  rintro ⟨k, m⟩ ⟨hk, hm0, hm⟩
  simp only at hk hm0 hm
  simp -implicitDefEqProofs only [keep, S0, S1, S2, S3, S4, S5, S6, S7, S8, S9, S10, S11, S12, S13, S14, S15, opv, opvs, eget, env0, setD, lenStr, lenSl, isNilP, isNilS, putAt, if_true, if_false, reduceCtorEq, Nat.reduceLeDiff, Nat.reduceEqDiff, Nat.reduceSub, Nat.reduceMul, Nat.reduceAdd]
  refine cond_split (fun h2 => ?_) (fun h2 => ?_)
  · obtain ⟨r, hx, hlt⟩ := at_of h2
    have hrr := hr r (mem_at hx)
    simp only [T.isL, T.is] at hrr
    obtain ⟨_, _, rfl, ⟨s, rfl, hs⟩, rfl⟩ := hrr
    simp only [maxLen] at hs
    have w2 : IntKind.i64.wrap (m - s.length) = m - s.length := IntWalk.i64_in _ (by omega)
    have hz := sizeR_step hx
    simp only [sizeL_cons, sizeL_nil, size_str] at hz
    simp -implicitDefEqProofs only [hx, nat_nn, w2, S0, S1, S2, S3, S4, S5, S6, S7, S8, S9, S10, S11, S12, S13, S14, S15, opv, opvs, eget, env0, setD, lenStr, lenSl, isNilP, isNilS, putAt, if_true, if_false, reduceCtorEq, Nat.reduceLeDiff, Nat.reduceEqDiff, Nat.reduceSub, Nat.reduceMul, Nat.reduceAdd]
    refine cond_split (fun h3 => ?_) (fun h3 => ?_)
    · simp -implicitDefEqProofs only [S0, S1, S2, S3, S4, S5, S6, S7, S8, S9, S10, S11, S12, S13, S14, S15, opv, opvs, eget, env0, setD, lenStr, lenSl, isNilP, isNilS, putAt, if_true, if_false, reduceCtorEq, Nat.reduceLeDiff, Nat.reduceEqDiff, Nat.reduceSub, Nat.reduceMul, Nat.reduceAdd]
      simp only [decide_eq_true_eq] at h3
      exact ret_same0 rfl ⟨⟨_, rfl, by omega, by omega⟩, rfl⟩
    · simp only [decide_eq_false_iff_not, Int.not_lt] at h3
      simp -implicitDefEqProofs only [i64_succ (show k < 4611686018427387904 by omega), S0, S1, S2, S3, S4, S5, S6, S7, S8, S9, S10, S11, S12, S13, S14, S15, opv, opvs, eget, env0, setD, lenStr, lenSl, isNilP, isNilS, putAt, if_true, if_false, reduceCtorEq, Nat.reduceLeDiff, Nat.reduceEqDiff, Nat.reduceSub, Nat.reduceMul, Nat.reduceAdd]
      exact lk_p0 (k + 1, m - s.length) (Nat.le_refl _) rfl (by simp only; omega) ⟨by simp only; omega, h3, by simp only [hz]; omega⟩ rfl
  · have hkk := end_of h2 hk
    simp -implicitDefEqProofs only [S0, S1, S2, S3, S4, S5, S6, S7, S8, S9, S10, S11, S12, S13, S14, S15, opv, opvs, eget, env0, setD, lenStr, lenSl, isNilP, isNilS, putAt, if_true, if_false, reduceCtorEq, Nat.reduceLeDiff, Nat.reduceEqDiff, Nat.reduceSub, Nat.reduceMul, Nat.reduceAdd]
    refine ret_same0 rfl ⟨⟨_, rfl, by omega, fun _ => ?_⟩, rfl⟩
    rw [hkk, List.take_length] at hm
    simp only [size_lst]
    omega

theorem szInt_ok (hi : Is P g 12 [.tmp 4] tSzInt) : SzOk P g (.sl 1 [.int .i64]) := by
  rintro t left σ ht h0 h1
  simp only [T.is] at ht
  obtain ⟨rows, rfl, hl, hr⟩ := ht
  refine acalls_is hi (by simp) (fun hσ => ?_)
  simp only [maxLen] at hl
  have w1 : IntKind.i64.wrap (left - rows.length) = left - rows.length := IntWalk.i64_in _ (by omega)
  have hz : ∀ rows : List (List T), (∀ r ∈ rows, T.isL [.int .i64] r) → T.sizeR rows = 0 := by
    intro rows hr
    induction rows with
    | nil => exact sizeR_nil
    | cons r rows ih =>
      have h1 := hr r (by simp)
      simp only [T.isL, T.is] at h1
      obtain ⟨_, _, rfl, ⟨s, rfl, hs⟩, rfl⟩ := h1
      simp only [sizeR_cons, sizeL_cons, sizeL_nil, size_int, ih fun r h => hr r (by simp [h])]
  have hz := hz rows hr
  simp -implicitDefEqProofs only [tSzInt, w1, S0, S1, S2, S3, S4, S5, S6, S7, S8, S9, S10, S11, S12, S13, S14, S15, opv, opvs, eget, env0, setD, lenStr, lenSl, isNilP, isNilS, putAt, if_true, if_false, reduceCtorEq, Nat.reduceLeDiff, Nat.reduceEqDiff, Nat.reduceSub, Nat.reduceMul, Nat.reduceAdd]
  refine cond_split (fun h => ?_) (fun h => ?_)
  · simp -implicitDefEqProofs only [S0, S1, S2, S3, S4, S5, S6, S7, S8, S9, S10, S11, S12, S13, S14, S15, opv, opvs, eget, env0, setD, lenStr, lenSl, isNilP, isNilS, putAt, if_true, if_false, reduceCtorEq, Nat.reduceLeDiff, Nat.reduceEqDiff, Nat.reduceSub, Nat.reduceMul, Nat.reduceAdd]
    exact ret_same0 rfl ⟨⟨_, rfl, by omega, by omega⟩, rfl⟩
  simp only [decide_eq_false_iff_not, Int.not_lt] at h
  simp -implicitDefEqProofs only [S0, S1, S2, S3, S4, S5, S6, S7, S8, S9, S10, S11, S12, S13, S14, S15, opv, opvs, eget, env0, setD, lenStr, lenSl, isNilP, isNilS, putAt, if_true, if_false, reduceCtorEq, Nat.reduceLeDiff, Nat.reduceEqDiff, Nat.reduceSub, Nat.reduceMul, Nat.reduceAdd]
  exact ret_same0 rfl ⟨⟨_, rfl, by omega, fun _ => by simp only [size_lst]; omega⟩, rfl⟩

theorem eqS_ok (hn : cs.length = n) (hi : Is P g 27 [.tmp 4] (tEqS n f)) (hf : EqLOk P f cs) : EqOk P g (.sl n cs) := by
  rintro t σ ht h1
  simp only [T.is] at ht
  obtain ⟨rows, rfl, hl, hr⟩ := ht
  refine acalls_is hi (by simp) (fun hσ => ?_)
  simp only [size_lst] at h1
  simp -implicitDefEqProofs only [tEqS, ne_self, S0, S1, S2, S3, S4, S5, S6, S7, S8, S9, S10, S11, S12, S13, S14, S15, opv, opvs, eget, env0, setD, lenStr, lenSl, isNilP, isNilS, putAt, if_true, if_false, reduceCtorEq, Nat.reduceLeDiff, Nat.reduceEqDiff, Nat.reduceSub, Nat.reduceMul, Nat.reduceAdd]
  refine loop_p [5, 0, 1] [0, 1] (fun x : Nat => [(5, .t (.int .i64 (x : Nat)))]) (fun x => x ≤ rows.length) (fun x => rows.length - x) 0 (Nat.le_refl _) (Nat.zero_le _) rfl ?_
  rintro k hk
  simp -implicitDefEqProofs only [keep, S0, S1, S2, S3, S4, S5, S6, S7, S8, S9, S10, S11, S12, S13, S14, S15, opv, opvs, eget, env0, setD, lenStr, lenSl, isNilP, isNilS, putAt, if_true, if_false, reduceCtorEq, Nat.reduceLeDiff, Nat.reduceEqDiff, Nat.reduceSub, Nat.reduceMul, Nat.reduceAdd]
  refine cond_split (fun h2 => ?_) (fun h2 => ?_)
  · obtain ⟨r, hx, hlt⟩ := at_of h2
    have hrl := T.isL_len (hr r (mem_at hx))
    have hrn : n ≤ r.length := by omega
    have := sizeR_get hx
    simp -implicitDefEqProofs only [hx, nat_nn, hrn, take_map_t (hrl.trans hn), S0, S1, S2, S3, S4, S5, S6, S7, S8, S9, S10, S11, S12, S13, S14, S15, opv, opvs, eget, env0, setD, lenStr, lenSl, isNilP, isNilS, putAt, if_true, if_false, reduceCtorEq, Nat.reduceLeDiff, Nat.reduceEqDiff, Nat.reduceSub, Nat.reduceMul, Nat.reduceAdd]
    refine call_pure (hf r _ (hr r (mem_at hx)) (by omega)) ?_
    simp -implicitDefEqProofs only [i64_succ (show k < 4611686018427387904 by omega), S0, S1, S2, S3, S4, S5, S6, S7, S8, S9, S10, S11, S12, S13, S14, S15, opv, opvs, eget, env0, setD, lenStr, lenSl, isNilP, isNilS, putAt, if_true, if_false, reduceCtorEq, Nat.reduceLeDiff, Nat.reduceEqDiff, Nat.reduceSub, Nat.reduceMul, Nat.reduceAdd]
    exact lk_p0 (k + 1) (Nat.le_refl _) rfl (by omega) (by omega) rfl
  · simp -implicitDefEqProofs only [S0, S1, S2, S3, S4, S5, S6, S7, S8, S9, S10, S11, S12, S13, S14, S15, opv, opvs, eget, env0, setD, lenStr, lenSl, isNilP, isNilS, putAt, if_true, if_false, reduceCtorEq, Nat.reduceLeDiff, Nat.reduceEqDiff, Nat.reduceSub, Nat.reduceMul, Nat.reduceAdd]
    exact ret_same0 rfl ⟨rfl, rfl⟩

theorem eqStr_ok (hi : Is P g 26 [.tmp 4] tEq1) : EqOk P g (.sl 1 [.str]) := by
  rintro t σ ht h1
  simp only [T.is] at ht
  obtain ⟨rows, rfl, hl, hr⟩ := ht
  refine acalls_is hi (by simp) (fun hσ => ?_)
  simp only [size_lst] at h1
  simp -implicitDefEqProofs only [tEq1, ne_self, S0, S1, S2, S3, S4, S5, S6, S7, S8, S9, S10, S11, S12, S13, S14, S15, opv, opvs, eget, env0, setD, lenStr, lenSl, isNilP, isNilS, putAt, if_true, if_false, reduceCtorEq, Nat.reduceLeDiff, Nat.reduceEqDiff, Nat.reduceSub, Nat.reduceMul, Nat.reduceAdd]
  refine loop_p [5, 0, 1] [0, 1] (fun x : Nat => [(5, .t (.int .i64 (x : Nat)))]) (fun x => x ≤ rows.length) (fun x => rows.length - x) 0 (Nat.le_refl _) (Nat.zero_le _) rfl ?_
  rintro k hk
  simp -implicitDefEqProofs only [keep, S0, S1, S2, S3, S4, S5, S6, S7, S8, S9, S10, S11, S12, S13, S14, S15, opv, opvs, eget, env0, setD, lenStr, lenSl, isNilP, isNilS, putAt, if_true, if_false, reduceCtorEq, Nat.reduceLeDiff, Nat.reduceEqDiff, Nat.reduceSub, Nat.reduceMul, Nat.reduceAdd]
  refine cond_split (fun h2 => ?_) (fun h2 => ?_)
  · obtain ⟨r, hx, hlt⟩ := at_of h2
    have hrr := hr r (mem_at hx)
    simp only [T.isL, T.is] at hrr
    obtain ⟨_, _, rfl, ⟨s, rfl, hs⟩, rfl⟩ := hrr
    simp -implicitDefEqProofs only [hx, nat_nn, ne_self, beq_self_eq_true, i64_succ (show k < 4611686018427387904 by omega), S0, S1, S2, S3, S4, S5, S6, S7, S8, S9, S10, S11, S12, S13, S14, S15, opv, opvs, eget, env0, setD, lenStr, lenSl, isNilP, isNilS, putAt, if_true, if_false, reduceCtorEq, Nat.reduceLeDiff, Nat.reduceEqDiff, Nat.reduceSub, Nat.reduceMul, Nat.reduceAdd]
    exact lk_p0 (k + 1) (Nat.le_refl _) rfl (by omega) (by omega) rfl
  · simp -implicitDefEqProofs only [S0, S1, S2, S3, S4, S5, S6, S7, S8, S9, S10, S11, S12, S13, S14, S15, opv, opvs, eget, env0, setD, lenStr, lenSl, isNilP, isNilS, putAt, if_true, if_false, reduceCtorEq, Nat.reduceLeDiff, Nat.reduceEqDiff, Nat.reduceSub, Nat.reduceMul, Nat.reduceAdd]
    exact ret_same0 rfl ⟨rfl, rfl⟩
theorem eqInt_ok (hi : Is P g 26 [.tmp 4] tEq1) : EqOk P g (.sl 1 [.int .i64]) := by
  rintro t σ ht h1
  simp only [T.is] at ht
  obtain ⟨rows, rfl, hl, hr⟩ := ht
  refine acalls_is hi (by simp) (fun hσ => ?_)
  simp only [size_lst] at h1
  simp -implicitDefEqProofs only [tEq1, ne_self, S0, S1, S2, S3, S4, S5, S6, S7, S8, S9, S10, S11, S12, S13, S14, S15, opv, opvs, eget, env0, setD, lenStr, lenSl, isNilP, isNilS, putAt, if_true, if_false, reduceCtorEq, Nat.reduceLeDiff, Nat.reduceEqDiff, Nat.reduceSub, Nat.reduceMul, Nat.reduceAdd]
  refine loop_p [5, 0, 1] [0, 1] (fun x : Nat => [(5, .t (.int .i64 (x : Nat)))]) (fun x => x ≤ rows.length) (fun x => rows.length - x) 0 (Nat.le_refl _) (Nat.zero_le _) rfl ?_
  rintro k hk
  simp -implicitDefEqProofs only [keep, S0, S1, S2, S3, S4, S5, S6, S7, S8, S9, S10, S11, S12, S13, S14, S15, opv, opvs, eget, env0, setD, lenStr, lenSl, isNilP, isNilS, putAt, if_true, if_false, reduceCtorEq, Nat.reduceLeDiff, Nat.reduceEqDiff, Nat.reduceSub, Nat.reduceMul, Nat.reduceAdd]
  refine cond_split (fun h2 => ?_) (fun h2 => ?_)
  · obtain ⟨r, hx, hlt⟩ := at_of h2
    have hrr := hr r (mem_at hx)
    simp only [T.isL, T.is] at hrr
    obtain ⟨_, _, rfl, ⟨s, rfl, hs⟩, rfl⟩ := hrr
    simp -implicitDefEqProofs only [hx, nat_nn, ne_self, beq_self_eq_true, i64_succ (show k < 4611686018427387904 by omega), S0, S1, S2, S3, S4, S5, S6, S7, S8, S9, S10, S11, S12, S13, S14, S15, opv, opvs, eget, env0, setD, lenStr, lenSl, isNilP, isNilS, putAt, if_true, if_false, reduceCtorEq, Nat.reduceLeDiff, Nat.reduceEqDiff, Nat.reduceSub, Nat.reduceMul, Nat.reduceAdd]
    exact lk_p0 (k + 1) (Nat.le_refl _) rfl (by omega) (by omega) rfl
  · simp -implicitDefEqProofs only [S0, S1, S2, S3, S4, S5, S6, S7, S8, S9, S10, S11, S12, S13, S14, S15, opv, opvs, eget, env0, setD, lenStr, lenSl, isNilP, isNilS, putAt, if_true, if_false, reduceCtorEq, Nat.reduceLeDiff, Nat.reduceEqDiff, Nat.reduceSub, Nat.reduceMul, Nat.reduceAdd]
    exact ret_same0 rfl ⟨rfl, rfl⟩

theorem OwnL.len {σ : Store} : ∀ {ts : List T} {us : List V} {is : List Nat}, OwnL σ ts us is → us.length = ts.length
  | [], _, _, h => by simp only [OwnL] at h; obtain ⟨rfl, rfl⟩ := h; rfl
  | r :: a, us, is, h => by
    simp only [OwnL] at h
    obtain ⟨u, us', i, j, rfl, rfl, h1, h2⟩ := h
    simp [OwnL.len h2]
theorem Own.one {σ : Store} {t : T} {v : V} {is : List Nat} (h : Own σ t v is) : one v = true := by
  cases t <;> simp only [Own] at h
  · obtain ⟨rfl, _⟩ := h; rfl
  · obtain ⟨rfl, _⟩ := h; rfl
  · obtain ⟨rfl, _⟩ := h; rfl
  · obtain ⟨_, ⟨_, _, rfl | rfl⟩ | ⟨_, _, _, _, rfl, _⟩⟩ := h <;> rfl
theorem OwnL.ones {σ : Store} : ∀ {ts : List T} {us : List V} {is : List Nat}, OwnL σ ts us is → us.all Go.Ab.one = true
  | [], _, _, h => by simp only [OwnL] at h; obtain ⟨rfl, rfl⟩ := h; rfl
  | r :: a, us, is, h => by
    simp only [OwnL] at h
    obtain ⟨u, us', i, j, rfl, rfl, h1, h2⟩ := h
    simp only [List.all_cons, h1.one, OwnL.ones h2, Bool.and_self]
theorem put_all {us z : List V} (h : us.length = z.length) : z.take 0 ++ us ++ z.drop (0 + us.length) = us := by
  simp [h]
theorem set_take {α : Type} {l : List α} {k : Nat} {x : α} (h : k < l.length) : (l.set k x).take (k + 1) = l.take k ++ [x] := by
  have : (l.set k x)[k]? = some x := by simp [h]
  rw [take_of this, List.take_set_of_le (Nat.le_refl _)]
theorem get_row {l : List (List V)} {n k : Nat} (h : ∀ r ∈ l, r.length = n) (hk : k < l.length) : ∃ z, l[k]? = some z ∧ z.length = n := ⟨l[k], by simp [hk], h _ (List.getElem_mem hk)⟩
theorem set_rows {l : List (List V)} {n k : Nat} {u : List V} (h : ∀ r ∈ l, r.length = n) (hu : u.length = n) : ∀ r ∈ l.set k u, r.length = n := by
  intro r hr
  rcases List.mem_or_eq_of_mem_set hr with hr | rfl
  · exact h r hr
  · exact hu

theorem toS_ok (bys : Nat) (Z : List V) (hn : cs.length = n) (hp : 0 < n) (hz : Z.length = n) (hb : bys ≤ 65536) (hi : Is P g 23 [.tmp 2] (tToS n bys f Z)) (hf : ToLOk P f cs) : ToOk P g (.sl n cs) := by
  rintro t σ ht h1
  simp only [T.is] at ht
  obtain ⟨rows, rfl, hl, hr⟩ := ht
  refine acalls_is hi (by simp) (fun hσ => ?_)
  simp only [size_lst] at h1
  have m1 : ((rows.length : Nat) : Int) ≤ 9223372036854775807 := by omega
  have m2 : (bys : Int) * (rows.length : Nat) ≤ 140737488355328 := by
    have : bys * rows.length ≤ 65536 * 1048576 := Nat.mul_le_mul hb (by omega)
    have h2 : ((bys * rows.length : Nat) : Int) ≤ ((65536 * 1048576 : Nat) : Int) := by exact_mod_cast this
    rw [Int.natCast_mul] at h2
    omega
  have m3 : ((rows.length : Nat) : Int) ≤ (rows.length : Nat) := Int.le_refl _
  simp -implicitDefEqProofs only [tToS, nat_nn, m1, m2, m3, S0, S1, S2, S3, S4, S5, S6, S7, S8, S9, S10, S11, S12, S13, S14, S15, opv, opvs, eget, env0, setD, lenStr, lenSl, isNilP, isNilS, putAt, if_true, if_false, reduceCtorEq, Nat.reduceLeDiff, Nat.reduceEqDiff, Nat.reduceSub, Nat.reduceMul, Nat.reduceAdd]
  refine loop_g [4, 0, 3] [0, 3] (fun x : Nat × List (List V) × Store × List Nat => [(4, .t (.int .i64 (x.1 : Nat)))]) (fun x => σ ++ .slc n x.2.1 :: x.2.2.1) (fun x => x.1 ≤ rows.length ∧ x.2.1.length = rows.length ∧ (∀ r ∈ x.2.1, r.length = n) ∧ OwnR (σ ++ .slc n x.2.1 :: x.2.2.1) (rows.take x.1) (x.2.1.take x.1) x.2.2.2 ∧ Wi x.2.2.2 (σ.length + 1) (σ ++ .slc n x.2.1 :: x.2.2.1).length)
    (fun x => rows.length - x.1) (0, List.replicate rows.length Z, [], []) (by simp) ⟨Nat.zero_le _, by simp, fun r hr => by rw [List.eq_of_mem_replicate hr]; exact hz, by simp [OwnR], Wi.nil⟩ rfl rfl ?_
  rintro ⟨k, R, τ, is⟩ ⟨hk, hR, hRn, ho, hw⟩
  simp only at hk hR hRn ho hw
  simp -implicitDefEqProofs only [keep, S0, S1, S2, S3, S4, S5, S6, S7, S8, S9, S10, S11, S12, S13, S14, S15, opv, opvs, eget, env0, setD, lenStr, lenSl, isNilP, isNilS, putAt, if_true, if_false, reduceCtorEq, Nat.reduceLeDiff, Nat.reduceEqDiff, Nat.reduceSub, Nat.reduceMul, Nat.reduceAdd]
  refine cond_split (fun h2 => ?_) (fun h2 => ?_)
  · obtain ⟨r, hx, hlt⟩ := at_of h2
    have hrl := T.isL_len (hr r (mem_at hx))
    have hrn : n ≤ r.length := by omega
    have hsz := sizeR_get hx
    simp -implicitDefEqProofs only [hx, nat_nn, hrn, take_map_t (hrl.trans hn), S0, S1, S2, S3, S4, S5, S6, S7, S8, S9, S10, S11, S12, S13, S14, S15, opv, opvs, eget, env0, setD, lenStr, lenSl, isNilP, isNilS, putAt, if_true, if_false, reduceCtorEq, Nat.reduceLeDiff, Nat.reduceEqDiff, Nat.reduceSub, Nat.reduceMul, Nat.reduceAdd]
    refine call_by (by rw [List.append_nil]; exact hf r _ (hr r (mem_at hx)) (by omega)) ?_
    rintro v σ' ⟨us, τ', js, rfl, rfl, hu, hv⟩
    have hul := hu.len
    obtain ⟨z, hz1, hz2⟩ := get_row (k := k) hRn (by omega)
    have c1 : ((k : Nat) : Int) < ((rows.length : Nat) : Int) := by omega
    have c2 : us.length = n := by omega
    have c3 : n ≤ z.length := by omega
    have c4 : us ++ List.drop n z = us := by rw [List.drop_of_length_le (by omega), List.append_nil]
    simp -implicitDefEqProofs only [nat_nn, hR, c1, c2, c3, hz1, hu.ones, c4, i64_succ (show k < 4611686018427387904 by omega), S0, S1, S2, S3, S4, S5, S6, S7, S8, S9, S10, S11, S12, S13, S14, S15, opv, opvs, eget, env0, setD, lenStr, lenSl, isNilP, isNilS, putAt, if_true, if_false, reduceCtorEq, Nat.reduceLeDiff, Nat.reduceEqDiff, Nat.reduceSub, Nat.reduceMul, Nat.reduceAdd]
    refine lk_g (k + 1, R.set k us, τ ++ τ', is ++ js) (by simp only; omega) ⟨by simp only; omega, by simp only [List.length_set]; exact hR, set_rows hRn (by omega), ?_, ?_⟩ (by simp) (by simp) rfl
    · simp only
      rw [take_of hx, set_take (by omega)]
      refine OwnR.app (ho.frame fun i hi => ?_) (OwnR.one (hu.frame fun i hi => ?_))
      · have := hw.2 i hi
        simp only [List.length_append, List.length_cons] at this
        rw [List.getElem?_append_right (by omega), List.getElem?_append_right (by omega)]
        obtain ⟨d, hd⟩ : ∃ d, i - σ.length = d + 1 := ⟨i - σ.length - 1, by omega⟩
        rw [hd, List.getElem?_cons_succ, List.getElem?_cons_succ, List.getElem?_append_left (by omega)]
      · have := hv.2 i hi
        simp only [List.length_append, List.length_cons] at this
        rw [List.append_assoc, List.cons_append, List.getElem?_append_right (by omega), List.getElem?_append_right (by omega)]
        obtain ⟨d, hd⟩ : ∃ d, i - σ.length = d + 1 := ⟨i - σ.length - 1, by omega⟩
        rw [hd, List.getElem?_cons_succ, List.getElem?_cons_succ]
    · simp only [List.length_append, List.length_cons, List.length_set] at hw hv ⊢
      exact (Wi.app hw hv (by omega) (by omega) (by omega)).mono (Nat.le_refl _) (by omega)
  · have hkk := end_of h2 hk
    simp -implicitDefEqProofs only [S0, S1, S2, S3, S4, S5, S6, S7, S8, S9, S10, S11, S12, S13, S14, S15, opv, opvs, eget, env0, setD, lenStr, lenSl, isNilP, isNilS, putAt, if_true, if_false, reduceCtorEq, Nat.reduceLeDiff, Nat.reduceEqDiff, Nat.reduceSub, Nat.reduceMul, Nat.reduceAdd]
    refine fin_keep (by simp) ⟨_, σ.length :: is, rfl, ?_, ?_⟩
    · rw [hkk, List.take_length, List.take_of_length_le (by omega)] at ho
      simp only [Own, mkRes]
      exact ⟨hp, .inr ⟨σ.length, is, R, rfl, by rw [hR], by simp, ho⟩⟩
    · exact Wi.cons hw (by omega) (by omega) (by simp)

theorem to1_ok {c : Sh} (bys : Nat) (Z : List V) (hc : ∀ t, T.is c t → scalar t = true) (hz : Z.length = 1) (hb : bys ≤ 65536) (hi : Is P g 22 [.tmp 2] (tTo1 bys Z)) : ToOk P g (.sl 1 [c]) := by
  rintro t σ ht h1
  simp only [T.is] at ht
  obtain ⟨rows, rfl, hl, hr⟩ := ht
  refine acalls_is hi (by simp) (fun hσ => ?_)
  simp only [size_lst] at h1
  have m1 : ((rows.length : Nat) : Int) ≤ 9223372036854775807 := by omega
  have m2 : (bys : Int) * (rows.length : Nat) ≤ 140737488355328 := by
    have : bys * rows.length ≤ 65536 * 1048576 := Nat.mul_le_mul hb (by omega)
    have h2 : ((bys * rows.length : Nat) : Int) ≤ ((65536 * 1048576 : Nat) : Int) := by exact_mod_cast this
    rw [Int.natCast_mul] at h2
    omega
  have m3 : ((rows.length : Nat) : Int) ≤ (rows.length : Nat) := Int.le_refl _
  simp -implicitDefEqProofs only [tTo1, nat_nn, m1, m2, m3, S0, S1, S2, S3, S4, S5, S6, S7, S8, S9, S10, S11, S12, S13, S14, S15, opv, opvs, eget, env0, setD, lenStr, lenSl, isNilP, isNilS, putAt, if_true, if_false, reduceCtorEq, Nat.reduceLeDiff, Nat.reduceEqDiff, Nat.reduceSub, Nat.reduceMul, Nat.reduceAdd]
  refine loop_g [4, 0, 3] [0, 3] (fun x : Nat × List (List V) => [(4, .t (.int .i64 (x.1 : Nat)))]) (fun x => σ ++ [.slc 1 x.2]) (fun x => x.1 ≤ rows.length ∧ x.2.length = rows.length ∧ (∀ r ∈ x.2, r.length = 1) ∧ OwnR (σ ++ [.slc 1 x.2]) (rows.take x.1) (x.2.take x.1) [])
    (fun x => rows.length - x.1) (0, List.replicate rows.length Z) (by simp) ⟨Nat.zero_le _, by simp, fun r hr => by rw [List.eq_of_mem_replicate hr]; exact hz, by simp [OwnR]⟩ rfl rfl ?_
  rintro ⟨k, R⟩ ⟨hk, hR, hRn, ho⟩
  simp only at hk hR hRn ho
  simp -implicitDefEqProofs only [keep, S0, S1, S2, S3, S4, S5, S6, S7, S8, S9, S10, S11, S12, S13, S14, S15, opv, opvs, eget, env0, setD, lenStr, lenSl, isNilP, isNilS, putAt, if_true, if_false, reduceCtorEq, Nat.reduceLeDiff, Nat.reduceEqDiff, Nat.reduceSub, Nat.reduceMul, Nat.reduceAdd]
  refine cond_split (fun h2 => ?_) (fun h2 => ?_)
  · obtain ⟨r, hx, hlt⟩ := at_of h2
    have hrr := hr r (mem_at hx)
    simp only [T.isL] at hrr
    obtain ⟨y, _, rfl, hy, rfl⟩ := hrr
    have hys := hc y hy
    obtain ⟨z, hz1, hz2⟩ := get_row (k := k) hRn (by omega)
    obtain ⟨z0, rfl⟩ : ∃ z0, z = [z0] := by
      match z, hz2 with
      | [z0], _ => exact ⟨z0, rfl⟩
    have c1 : ((k : Nat) : Int) < ((rows.length : Nat) : Int) := by omega
    simp -implicitDefEqProofs only [hx, nat_nn, hR, c1, hz1, i64_succ (show k < 4611686018427387904 by omega), S0, S1, S2, S3, S4, S5, S6, S7, S8, S9, S10, S11, S12, S13, S14, S15, opv, opvs, eget, env0, setD, lenStr, lenSl, isNilP, isNilS, putAt, if_true, if_false, reduceCtorEq, Nat.reduceLeDiff, Nat.reduceEqDiff, Nat.reduceSub, Nat.reduceMul, Nat.reduceAdd]
    refine lk_g (k + 1, R.set k [.t y]) (by simp only; omega) ⟨by simp only; omega, by simp only [List.length_set]; exact hR, set_rows hRn rfl, ?_⟩ (by simp) (by simp) rfl
    simp only
    rw [take_of hx, set_take (by omega)]
    refine OwnR.app (is := []) (js := []) (ho.frame fun i hi => by simp at hi) (OwnR.one ?_)
    simp only [OwnL]
    refine ⟨_, _, [], [], rfl, rfl, ?_, rfl, rfl⟩
    cases y with
    | lst _ _ => simp [scalar] at hys
    | _ => simp [Own]
  · have hkk := end_of h2 hk
    simp -implicitDefEqProofs only [S0, S1, S2, S3, S4, S5, S6, S7, S8, S9, S10, S11, S12, S13, S14, S15, opv, opvs, eget, env0, setD, lenStr, lenSl, isNilP, isNilS, putAt, if_true, if_false, reduceCtorEq, Nat.reduceLeDiff, Nat.reduceEqDiff, Nat.reduceSub, Nat.reduceMul, Nat.reduceAdd]
    refine fin_keep (by simp) ⟨_, [σ.length], rfl, ?_, ?_⟩
    · rw [hkk, List.take_length, List.take_of_length_le (by omega)] at ho
      simp only [Own, mkRes]
      exact ⟨by omega, .inr ⟨σ.length, [], R, rfl, by rw [hR], by simp, ho⟩⟩
    · exact Wi.cons (Wi.nil (a := σ.length + 1)) (by omega) (by omega) (by simp)
end
end Go.Ab
