/- Which values fit a field. Conditions: none. -/
import Derived.Test.YtcjchimenfadkaaGateNum
set_option linter.unusedSimpArgs false
set_option linter.unusedVariables false
set_option linter.defProp false
open Go Go.Ab
set_option maxHeartbeats 2000000
namespace Go.Proofs.Ytcjchimenfadkaa.W
def neT (v x : List UInt8) : Bool := !(x == v)
def hasW (l : List (List UInt8)) (v : List UInt8) : Bool := !(l.all (neT v))
def txtB (b : UInt8) : Bool := wi (b.toNat : Int) 33 126
def fitN (f : GateField) (v : List UInt8) : Bool := decG v && decide (decV v ≥ f.Least) && decide (decV v ≤ f.Most)
def fitT (f : GateField) (v : List UInt8) : Bool := !(decide ((v.length : Int) < f.Least) || decide ((v.length : Int) > f.Most)) && v.all txtB
def fitsG (f : GateField) (v : List UInt8) : Bool := if f.Kind = 1 then fitN f v else if f.Kind = 2 then !(v == []) && hasW f.Words v else if f.Kind = 3 then !(v == []) && fitT f v else if f.Kind = 4 then nameOk v else false
theorem fitN_ne {f : GateField} {v : List UInt8} (h : (v == []) = true) : fitN f v = false := by
  have : v = [] := by simpa using h
  subst this; rfl
theorem name_ne {v : List UInt8} (h : (v == []) = true) : nameOk v = false := by
  have : v = [] := by simpa using h
  subst this; rfl

def sortV (f : GateField) : V := if f.Kind = 1 then .iface 90 (.agg f.vs) else if f.Kind = 2 then .iface 92 (.agg f.vs) else if f.Kind = 3 then .iface 93 (.agg f.vs) else if f.Kind = 4 then .iface 94 (.agg f.vs) else .nili
def sortB (f : GateField) : Bool := f.Kind == 1 || f.Kind == 2 || f.Kind == 3 || f.Kind == 4
theorem findM_c (k : V) (e : ME) (es : List ME) : findM k (e :: es) = if kEq k e.k = true then some e else findM k es := rfl
theorem putM_c (k v : V) (c : Nat) (e : ME) (es : List ME) : putM k v c (e :: es) = if kEq k e.k = true then ⟨k, v, e.b⟩ :: es else e :: putM k v c es := by
  simp only [putM]
theorem kEq_i (k k' : IntKind) (n m : Int) : kEq (.t (.int k n)) (.t (.int k' m)) = (n == m) := rfl
theorem meth_pure {P : Program} {g : FuncId} {us : List V} {σ : Store} {v : V} {K : V → Store → Prop} (h : ACalls P g us σ fun rr σ' => rr = v ∧ σ' = σ) (k : K v σ) : ∃ R, ACalls P g us σ R ∧ ∀ r σ', R r σ' → K r σ' := ⟨_, h, fun r σ' hr => by obtain ⟨rfl, rfl⟩ := hr; exact k⟩
theorem ok_i (n : Int) : KD.ok (.one (.int .i64)) (.t (.int .i64 n)) = true := rfl
theorem kinds (f : GateField) : f.Kind = 1 ∨ f.Kind = 2 ∨ f.Kind = 3 ∨ f.Kind = 4 ∨ ((f.Kind == 1) = false ∧ (f.Kind == 2) = false ∧ (f.Kind == 3) = false ∧ (f.Kind == 4) = false) := by
  by_cases h1 : f.Kind = 1
  · exact .inl h1
  by_cases h2 : f.Kind = 2
  · exact .inr (.inl h2)
  by_cases h3 : f.Kind = 3
  · exact .inr (.inr (.inl h3))
  by_cases h4 : f.Kind = 4
  · exact .inr (.inr (.inr (.inl h4)))
  · refine .inr (.inr (.inr (.inr ?_)))
    simp [h1, h2, h3, h4]

def c_spec_l1Has : C := (.seq (.ops [⟨(some 4), none, (.mv (.c (.t (.bool false))))⟩]) (.seq (.seq (.ops [⟨(some 5), none, (.mv (.c (.t (.int .i64 0))))⟩]) (.block 0 (.loop (.seq (.seq (.ops [⟨(some 6), none, (.mv (.t 5))⟩, ⟨(some 7), none, (.mv (.t 0))⟩, ⟨(some 8), none, (.len false (.t 7))⟩, ⟨(some 9), none, (.bin .lss (.t 6) (.t 8))⟩]) (.cond (.t 9) .skip (.exit 0))) (.seq (.block 1 (.seq (.ops [⟨(some 12), none, (.mv (.t 0))⟩, ⟨(some 13), none, (.mv (.t 5))⟩, ⟨(some 14), none, (.indexAddr 1 (.t 12) (.t 13))⟩, ⟨(some 15), none, (.load none (.t 14))⟩, ⟨(some 16), none, (.mv (.t 1))⟩, ⟨(some 17), none, (.bin .eql (.t 15) (.t 16))⟩]) (.cond (.t 17) (.seq (.ops [⟨(some 4), none, (.mv (.c (.t (.bool true))))⟩]) .ret) .skip))) (.ops [⟨(some 10), none, (.mv (.t 5))⟩, ⟨(some 11), none, (.bin .add (.t 10) (.c (.t (.int .i64 1))))⟩, ⟨(some 5), none, (.mv (.t 11))⟩])))))) (.seq (.ops [⟨(some 4), none, (.mv (.c (.t (.bool false))))⟩]) .ret)))
theorem k_spec_l1Has : comp Try.prog 18 (Try.f32.body.getD .skip) = some c_spec_l1Has := by kernel_rfl

theorem spec_l1Has (l : List (List UInt8)) (hl : l.length ≤ 1048576) (v : List UInt8)  (σ : Store) : ACalls Try.prog 32 [.t (tStrs l), .t (.str (v))] σ fun rr σ' => rr = .t (.bool (hasW l v)) ∧ σ' = σ := by
  refine acalls_of Try.func32 (by decide +kernel) (code := Try.f32.body.getD .skip) (n := 18) (c := c_spec_l1Has) (rs := [(.tmp 4)]) rfl rfl k_spec_l1Has (by kernel_rfl) (by simp) (fun hσ => ?_)
  have hh : True := trivial
  have fin : ∀ {u : V} {τ : Store}, u = .t (.bool (hasW l v)) → u.lt σ.length = true → retV σ.length (fun rr σ' => rr = .t (.bool (hasW l v)) ∧ σ' = σ) (σ ++ τ) (some [u]) := fun h h2 => ret_same rfl hσ h2 ⟨h, rfl⟩
  have fin0 : ∀ {u : V}, u = .t (.bool (hasW l v)) → retV σ.length (fun rr σ' => rr = .t (.bool (hasW l v)) ∧ σ' = σ) σ (some [u]) := fun h => ret_same0 rfl ⟨h, rfl⟩
  simp -implicitDefEqProofs only [c_spec_l1Has, tStrs, List.length_map, S0, S1, S2, S3, S4, S5, S6, S7, S8, S9, S10, S11, S12, S13, S14, S15, S16, S17, opv, opvs, eget, env0, setD, lenStr, lenSl, isNilP, isNilS, putAt, if_true, if_false, reduceCtorEq, Nat.reduceLeDiff, Nat.reduceEqDiff, Nat.reduceSub, Nat.reduceMul, Nat.reduceAdd]
  refine loop_p [5, 0, 1] [0, 1] (fun k : Nat => [(5, .t (.int .i64 (k : Nat)))]) (fun k => k ≤ (l).length ∧ ((l).take k).all (neT v) = true) (fun k => (l).length - k) 0 (by simp) ⟨Nat.zero_le _, rfl⟩ rfl ?_
  rintro k ⟨hk, hall⟩
  simp -implicitDefEqProofs only [keep, List.length_map, S0, S1, S2, S3, S4, S5, S6, S7, S8, S9, S10, S11, S12, S13, S14, S15, S16, S17, opv, opvs, eget, env0, setD, lenStr, lenSl, isNilP, isNilS, putAt, if_true, if_false, reduceCtorEq, Nat.reduceLeDiff, Nat.reduceEqDiff, Nat.reduceSub, Nat.reduceMul, Nat.reduceAdd]
  refine cond_split (fun h1 => ?_) (fun h1 => ?_)
  · obtain ⟨x, hx, hlt⟩ := at_of h1
    clear h1 hh
    have hh : True := trivial
    simp -implicitDefEqProofs only [hx, nat_nn, Nat.zero_le, List.getElem?_map, Option.map_some, tStr, List.length_map, i64_succ (show k < 4611686018427387904 by omega), S0, S1, S2, S3, S4, S5, S6, S7, S8, S9, S10, S11, S12, S13, S14, S15, S16, S17, opv, opvs, eget, env0, setD, lenStr, lenSl, isNilP, isNilS, putAt, if_true, if_false, reduceCtorEq, Nat.reduceLeDiff, Nat.reduceEqDiff, Nat.reduceSub, Nat.reduceMul, Nat.reduceAdd]
    repeat' (first
    | ((with_reducible refine cond_known (fun h => ?_) (fun h => ?_)) <;> (replace hh := And.intro h hh; clear h; simp -implicitDefEqProofs only [hh, cond_t, cond_f, hx, nat_nn, Nat.zero_le, List.getElem?_map, Option.map_some, tStr, List.length_map, i64_succ (show k < 4611686018427387904 by omega), S0, S1, S2, S3, S4, S5, S6, S7, S8, S9, S10, S11, S12, S13, S14, S15, S16, S17, opv, opvs, eget, env0, setD, lenStr, lenSl, isNilP, isNilS, putAt, if_true, if_false, reduceCtorEq, Nat.reduceLeDiff, Nat.reduceEqDiff, Nat.reduceSub, Nat.reduceMul, Nat.reduceAdd]))
    | (first | ((with_reducible refine fin0 ?_); refine tb ?_; (try simp only [Known] at hh); have hno := all_not (l := (l)) (p := (neT v)) hx; rw [hasW, hno (by grind [neT])]; rfl) | ((with_reducible refine fin ?_ ?_); rotate_left; exact rfl; refine tb ?_; (try simp only [Known] at hh); have hno := all_not (l := (l)) (p := (neT v)) hx; rw [hasW, hno (by grind [neT])]; rfl) | (refine lk_p0 (k + 1) (by simp) (by simp) (by omega) ⟨by omega, all_step hx hall ?_⟩ rfl; (try simp only [Known] at hh); grind [neT]) | (refine lk_p (k + 1) (by simp) (by simp) hσ rfl (by omega) ⟨by omega, all_step hx hall ?_⟩ rfl rfl; (try simp only [Known] at hh); grind [neT]) | (refine lk_pm (k + 1) (Nat.le_refl _) (by simp) hσ rfl rfl (by omega) ⟨by omega, all_step hx hall ?_⟩ (by simp [ltE, keep, eget, V.lt]) rfl; (try simp only [Known] at hh); grind [neT])))
  replace hall := all_len hall ((end_of h1 hk).trans (by rfl))
  clear h1 hk
  simp -implicitDefEqProofs only [S0, S1, S2, S3, S4, S5, S6, S7, S8, S9, S10, S11, S12, S13, S14, S15, S16, S17, opv, opvs, eget, env0, setD, lenStr, lenSl, isNilP, isNilS, putAt, if_true, if_false, reduceCtorEq, Nat.reduceLeDiff, Nat.reduceEqDiff, Nat.reduceSub, Nat.reduceMul, Nat.reduceAdd]
  (first | ((with_reducible refine fin0 ?_); refine tb ?_; (try simp only [Known] at hh); rw [hasW, hall]; rfl) | ((with_reducible refine fin ?_ ?_); rotate_left; exact rfl; refine tb ?_; (try simp only [Known] at hh); rw [hasW, hall]; rfl))
def c__impl_wordField__fits : C := (.seq (.ops [⟨(some 2), none, (.box (.t 0))⟩, ⟨(some 4), none, (.mv (.c (.t (.bool false))))⟩]) (.seq (.seq (.ops [⟨(some 7), none, (.fieldAddr 0 (.t 2))⟩, ⟨(some 8), none, (.fieldAddr 4 (.t 7))⟩, ⟨(some 9), none, (.load none (.t 8))⟩, ⟨(some 10), none, (.len false (.t 9))⟩, ⟨(some 11), none, (.mv (.c (.t (.int .i64 0))))⟩]) (.block 0 (.loop (.seq (.ops [⟨(some 12), none, (.bin .lss (.t 11) (.t 10))⟩]) (.seq (.cond (.t 12) .skip (.exit 0)) (.seq (.block 1 (.seq (.ops [⟨(some 13), none, (.indexAddr 1 (.t 9) (.t 11))⟩, ⟨(some 14), none, (.load none (.t 13))⟩, ⟨(some 6), none, (.mv (.t 14))⟩]) (.seq (.ops [⟨(some 15), none, (.mv (.t 6))⟩, ⟨(some 16), none, (.mv (.t 1))⟩, ⟨(some 17), none, (.bin .eql (.t 15) (.t 16))⟩]) (.cond (.t 17) (.seq (.ops [⟨(some 4), none, (.mv (.c (.t (.bool true))))⟩]) .ret) .skip)))) (.ops [⟨(some 18), none, (.bin .add (.t 11) (.c (.t (.int .i64 1))))⟩, ⟨(some 11), none, (.mv (.t 18))⟩]))))))) (.seq (.ops [⟨(some 4), none, (.mv (.c (.t (.bool false))))⟩]) .ret)))
theorem k__impl_wordField__fits : comp Try.prog 19 (Try.f83.body.getD .skip) = some c__impl_wordField__fits := by kernel_rfl

theorem _impl_wordField__fits (f : GateField) (hf : f.Ok) (v : List UInt8) (hv : v.length ≤ 1048576)  (σ : Store) : ACalls Try.prog 83 [.agg (f.vs), .t (.str (v))] σ fun rr σ' => rr = .t (.bool (hasW f.Words v)) ∧ σ' = σ := by
  refine acalls_of Try.func83 (by decide +kernel) (code := Try.f83.body.getD .skip) (n := 19) (c := c__impl_wordField__fits) (rs := [(.tmp 4)]) rfl rfl k__impl_wordField__fits (by kernel_rfl) (by simp) (fun hσ => ?_)
  have hh : True := trivial
  have fin : ∀ {u : V} {τ : Store}, u = .t (.bool (hasW f.Words v)) → u.lt σ.length = true → retV σ.length (fun rr σ' => rr = .t (.bool (hasW f.Words v)) ∧ σ' = σ) (σ ++ τ) (some [u]) := fun h h2 => ret_same rfl hσ h2 ⟨h, rfl⟩
  have fin0 : ∀ {u : V}, u = .t (.bool (hasW f.Words v)) → retV σ.length (fun rr σ' => rr = .t (.bool (hasW f.Words v)) ∧ σ' = σ) σ (some [u]) := fun h => ret_same0 rfl ⟨h, rfl⟩
  have y1 := hf.Words.1
  simp -implicitDefEqProofs only [c__impl_wordField__fits, GateField.vs, List.length_map, S0, S1, S2, S3, S4, S5, S6, S7, S8, S9, S10, S11, S12, S13, S14, S15, S16, S17, opv, opvs, eget, env0, setD, lenStr, lenSl, isNilP, isNilS, putAt, if_true, if_false, reduceCtorEq, Nat.reduceLeDiff, Nat.reduceEqDiff, Nat.reduceSub, Nat.reduceMul, Nat.reduceAdd]
  refine loop_p [11, 1, 9, 10] [1, 9, 10] (fun k : Nat => [(11, .t (.int .i64 (k : Nat)))]) (fun k => k ≤ (f.Words).length ∧ ((f.Words).take k).all (neT v) = true) (fun k => (f.Words).length - k) 0 (by simp) ⟨Nat.zero_le _, rfl⟩ rfl ?_
  rintro k ⟨hk, hall⟩
  simp -implicitDefEqProofs only [keep, List.length_map, S0, S1, S2, S3, S4, S5, S6, S7, S8, S9, S10, S11, S12, S13, S14, S15, S16, S17, opv, opvs, eget, env0, setD, lenStr, lenSl, isNilP, isNilS, putAt, if_true, if_false, reduceCtorEq, Nat.reduceLeDiff, Nat.reduceEqDiff, Nat.reduceSub, Nat.reduceMul, Nat.reduceAdd]
  refine cond_split (fun h1 => ?_) (fun h1 => ?_)
  · obtain ⟨x, hx, hlt⟩ := at_of h1
    clear h1 hh
    have hh : True := trivial
    simp -implicitDefEqProofs only [hx, nat_nn, Nat.zero_le, List.getElem?_map, Option.map_some, tStr, List.length_map, i64_succ (show k < 4611686018427387904 by omega), S0, S1, S2, S3, S4, S5, S6, S7, S8, S9, S10, S11, S12, S13, S14, S15, S16, S17, opv, opvs, eget, env0, setD, lenStr, lenSl, isNilP, isNilS, putAt, if_true, if_false, reduceCtorEq, Nat.reduceLeDiff, Nat.reduceEqDiff, Nat.reduceSub, Nat.reduceMul, Nat.reduceAdd]
    repeat' (first
    | ((with_reducible refine cond_known (fun h => ?_) (fun h => ?_)) <;> (replace hh := And.intro h hh; clear h; simp -implicitDefEqProofs only [hh, cond_t, cond_f, hx, nat_nn, Nat.zero_le, List.getElem?_map, Option.map_some, tStr, List.length_map, i64_succ (show k < 4611686018427387904 by omega), S0, S1, S2, S3, S4, S5, S6, S7, S8, S9, S10, S11, S12, S13, S14, S15, S16, S17, opv, opvs, eget, env0, setD, lenStr, lenSl, isNilP, isNilS, putAt, if_true, if_false, reduceCtorEq, Nat.reduceLeDiff, Nat.reduceEqDiff, Nat.reduceSub, Nat.reduceMul, Nat.reduceAdd]))
    | (first | ((with_reducible refine fin0 ?_); refine tb ?_; (try simp only [Known] at hh); have hno := all_not (l := (f.Words)) (p := (neT v)) hx; rw [hasW, hno (by grind [neT])]; rfl) | ((with_reducible refine fin ?_ ?_); rotate_left; exact rfl; refine tb ?_; (try simp only [Known] at hh); have hno := all_not (l := (f.Words)) (p := (neT v)) hx; rw [hasW, hno (by grind [neT])]; rfl) | (refine lk_p0 (k + 1) (by simp) (by simp) (by omega) ⟨by omega, all_step hx hall ?_⟩ rfl; (try simp only [Known] at hh); grind [neT]) | (refine lk_p (k + 1) (by simp) (by simp) hσ rfl (by omega) ⟨by omega, all_step hx hall ?_⟩ rfl rfl; (try simp only [Known] at hh); grind [neT]) | (refine lk_pm (k + 1) (Nat.le_refl _) (by simp) hσ rfl rfl (by omega) ⟨by omega, all_step hx hall ?_⟩ (by simp [ltE, keep, eget, V.lt]) rfl; (try simp only [Known] at hh); grind [neT])))
  replace hall := all_len hall ((end_of h1 hk).trans (by rfl))
  clear h1 hk
  simp -implicitDefEqProofs only [S0, S1, S2, S3, S4, S5, S6, S7, S8, S9, S10, S11, S12, S13, S14, S15, S16, S17, opv, opvs, eget, env0, setD, lenStr, lenSl, isNilP, isNilS, putAt, if_true, if_false, reduceCtorEq, Nat.reduceLeDiff, Nat.reduceEqDiff, Nat.reduceSub, Nat.reduceMul, Nat.reduceAdd]
  (first | ((with_reducible refine fin0 ?_); refine tb ?_; (try simp only [Known] at hh); rw [hasW, hall]; rfl) | ((with_reducible refine fin ?_ ?_); rotate_left; exact rfl; refine tb ?_; (try simp only [Known] at hh); rw [hasW, hall]; rfl))
def c__impl_numberField__fits : C := (.seq (.ops [⟨(some 2), none, (.box (.t 0))⟩, ⟨(some 4), none, (.mv (.c (.t (.bool false))))⟩]) (.seq (.ops [⟨(some 8), none, (.mv (.t 1))⟩, ⟨(some 9), none, (.call (.c (.fn (.func 81) [])) [(.t 8)])⟩, ⟨(some 7), none, (.mv (.t 9))⟩, ⟨(some 10), none, (.extract (.t 7) 0)⟩, ⟨(some 11), none, (.extract (.t 7) 1)⟩, ⟨(some 5), none, (.mv (.t 10))⟩, ⟨(some 6), none, (.mv (.t 11))⟩]) (.seq (.ops [⟨(some 12), none, (.mv (.t 6))⟩, ⟨(some 13), none, (.mv (.t 12))⟩, ⟨(some 14), (some ⟨13, true⟩), (.mv (.t 5))⟩, ⟨(some 15), (some ⟨13, true⟩), (.fieldAddr 0 (.t 2))⟩, ⟨(some 16), (some ⟨13, true⟩), (.fieldAddr 2 (.t 15))⟩, ⟨(some 17), (some ⟨13, true⟩), (.load none (.t 16))⟩, ⟨(some 18), (some ⟨13, true⟩), (.bin .geq (.t 14) (.t 17))⟩, ⟨(some 19), none, (.pick (.t 13) (.t 18) (.c (.t (.bool false))))⟩, ⟨(some 20), none, (.mv (.t 19))⟩, ⟨(some 21), (some ⟨20, true⟩), (.mv (.t 5))⟩, ⟨(some 22), (some ⟨20, true⟩), (.fieldAddr 0 (.t 2))⟩, ⟨(some 23), (some ⟨20, true⟩), (.fieldAddr 3 (.t 22))⟩, ⟨(some 24), (some ⟨20, true⟩), (.load none (.t 23))⟩, ⟨(some 25), (some ⟨20, true⟩), (.bin .leq (.t 21) (.t 24))⟩, ⟨(some 26), none, (.pick (.t 20) (.t 25) (.c (.t (.bool false))))⟩, ⟨(some 4), none, (.mv (.t 26))⟩]) .ret)))
theorem k__impl_numberField__fits : comp Try.prog 27 (Try.f79.body.getD .skip) = some c__impl_numberField__fits := by kernel_rfl

theorem _impl_numberField__fits (f : GateField) (hf : f.Ok) (v : List UInt8) (hv : v.length ≤ 1048576)  (σ : Store) : ACalls Try.prog 79 [.agg (f.vs), .t (.str (v))] σ fun rr σ' => rr = .t (.bool (fitN f v)) ∧ σ' = σ := by
  refine acalls_of Try.func79 (by decide +kernel) (code := Try.f79.body.getD .skip) (n := 27) (c := c__impl_numberField__fits) (rs := [(.tmp 4)]) rfl rfl k__impl_numberField__fits (by kernel_rfl) (by simp) (fun hσ => ?_)
  have hh : True := trivial
  have fin : ∀ {u : V} {τ : Store}, u = .t (.bool (fitN f v)) → u.lt σ.length = true → retV σ.length (fun rr σ' => rr = .t (.bool (fitN f v)) ∧ σ' = σ) (σ ++ τ) (some [u]) := fun h h2 => ret_same rfl hσ h2 ⟨h, rfl⟩
  have fin0 : ∀ {u : V}, u = .t (.bool (fitN f v)) → retV σ.length (fun rr σ' => rr = .t (.bool (fitN f v)) ∧ σ' = σ) σ (some [u]) := fun h => ret_same0 rfl ⟨h, rfl⟩
  simp -implicitDefEqProofs only [c__impl_numberField__fits, GateField.vs, S0, S1, S2, S3, S4, S5, S6, S7, S8, S9, S10, S11, S12, S13, S14, S15, S16, S17, opv, opvs, eget, env0, setD, lenStr, lenSl, isNilP, isNilS, putAt, if_true, if_false, reduceCtorEq, Nat.reduceLeDiff, Nat.reduceEqDiff, Nat.reduceSub, Nat.reduceMul, Nat.reduceAdd]
  refine call_pure (impl_decimal v hv _) ?_
  simp -implicitDefEqProofs only [S0, S1, S2, S3, S4, S5, S6, S7, S8, S9, S10, S11, S12, S13, S14, S15, S16, S17, opv, opvs, eget, env0, setD, lenStr, lenSl, isNilP, isNilS, putAt, if_true, if_false, reduceCtorEq, Nat.reduceLeDiff, Nat.reduceEqDiff, Nat.reduceSub, Nat.reduceMul, Nat.reduceAdd]
  repeat' (first
    | ((with_reducible refine cond_known (fun h => ?_) (fun h => ?_)) <;> (replace hh := And.intro h hh; clear h; simp -implicitDefEqProofs only [hh, cond_t, cond_f, S0, S1, S2, S3, S4, S5, S6, S7, S8, S9, S10, S11, S12, S13, S14, S15, S16, S17, opv, opvs, eget, env0, setD, lenStr, lenSl, isNilP, isNilS, putAt, if_true, if_false, reduceCtorEq, Nat.reduceLeDiff, Nat.reduceEqDiff, Nat.reduceSub, Nat.reduceMul, Nat.reduceAdd]))
    | (first | ((with_reducible refine fin0 ?_); refine tb ?_; (try simp only [Known] at hh); grind [fitN]) | ((with_reducible refine fin ?_ ?_); rotate_left; exact rfl; refine tb ?_; (try simp only [Known] at hh); grind [fitN])))

def c__impl_textField__fits : C := (.seq (.ops [⟨(some 2), none, (.box (.t 0))⟩, ⟨(some 4), none, (.mv (.c (.t (.bool false))))⟩]) (.seq (.seq (.ops [⟨(some 6), none, (.mv (.t 1))⟩, ⟨(some 7), none, (.len true (.t 6))⟩, ⟨(some 8), none, (.fieldAddr 0 (.t 2))⟩, ⟨(some 9), none, (.fieldAddr 2 (.t 8))⟩, ⟨(some 10), none, (.load none (.t 9))⟩, ⟨(some 11), none, (.bin .lss (.t 7) (.t 10))⟩, ⟨(some 12), none, (.mv (.t 11))⟩, ⟨(some 13), (some ⟨12, false⟩), (.mv (.t 1))⟩, ⟨(some 14), (some ⟨12, false⟩), (.len true (.t 13))⟩, ⟨(some 15), (some ⟨12, false⟩), (.fieldAddr 0 (.t 2))⟩, ⟨(some 16), (some ⟨12, false⟩), (.fieldAddr 3 (.t 15))⟩, ⟨(some 17), (some ⟨12, false⟩), (.load none (.t 16))⟩, ⟨(some 18), (some ⟨12, false⟩), (.bin .gtr (.t 14) (.t 17))⟩, ⟨(some 19), none, (.pick (.t 12) (.c (.t (.bool true))) (.t 18))⟩]) (.cond (.t 19) (.seq (.ops [⟨(some 4), none, (.mv (.c (.t (.bool false))))⟩]) .ret) .skip)) (.seq (.seq (.ops [⟨(some 20), none, (.mv (.t 1))⟩, ⟨(some 21), none, (.len true (.t 20))⟩, ⟨(some 22), none, (.mv (.c (.t (.int .i64 0))))⟩]) (.block 0 (.loop (.seq (.ops [⟨(some 23), none, (.bin .lss (.t 22) (.t 21))⟩]) (.seq (.cond (.t 23) .skip (.exit 0)) (.seq (.block 1 (.seq (.ops [⟨(some 24), none, (.mv (.t 22))⟩, ⟨(some 5), none, (.mv (.t 24))⟩]) (.seq (.ops [⟨(some 25), none, (.mv (.t 1))⟩, ⟨(some 26), none, (.mv (.t 5))⟩, ⟨(some 27), none, (.index (.t 25) (.t 26))⟩, ⟨(some 28), none, (.bin .lss (.t 27) (.c (.t (.int .u8 33))))⟩, ⟨(some 29), none, (.mv (.t 28))⟩, ⟨(some 30), (some ⟨29, false⟩), (.mv (.t 1))⟩, ⟨(some 31), (some ⟨29, false⟩), (.mv (.t 5))⟩, ⟨(some 32), (some ⟨29, false⟩), (.index (.t 30) (.t 31))⟩, ⟨(some 33), (some ⟨29, false⟩), (.bin .gtr (.t 32) (.c (.t (.int .u8 126))))⟩, ⟨(some 34), none, (.pick (.t 29) (.c (.t (.bool true))) (.t 33))⟩]) (.cond (.t 34) (.seq (.ops [⟨(some 4), none, (.mv (.c (.t (.bool false))))⟩]) .ret) .skip)))) (.ops [⟨(some 35), none, (.bin .add (.t 22) (.c (.t (.int .i64 1))))⟩, ⟨(some 22), none, (.mv (.t 35))⟩]))))))) (.seq (.ops [⟨(some 4), none, (.mv (.c (.t (.bool true))))⟩]) .ret))))
theorem k__impl_textField__fits : comp Try.prog 36 (Try.f86.body.getD .skip) = some c__impl_textField__fits := by kernel_rfl

theorem _impl_textField__fits (f : GateField) (hf : f.Ok) (v : List UInt8) (hv : v.length ≤ 1048576)  (σ : Store) : ACalls Try.prog 86 [.agg (f.vs), .t (.str (v))] σ fun rr σ' => rr = .t (.bool (fitT f v)) ∧ σ' = σ := by
  refine acalls_of Try.func86 (by decide +kernel) (code := Try.f86.body.getD .skip) (n := 36) (c := c__impl_textField__fits) (rs := [(.tmp 4)]) rfl rfl k__impl_textField__fits (by kernel_rfl) (by simp) (fun hσ => ?_)
  have hh : True := trivial
  have fin : ∀ {u : V} {τ : Store}, u = .t (.bool (fitT f v)) → u.lt σ.length = true → retV σ.length (fun rr σ' => rr = .t (.bool (fitT f v)) ∧ σ' = σ) (σ ++ τ) (some [u]) := fun h h2 => ret_same rfl hσ h2 ⟨h, rfl⟩
  have fin0 : ∀ {u : V}, u = .t (.bool (fitT f v)) → retV σ.length (fun rr σ' => rr = .t (.bool (fitT f v)) ∧ σ' = σ) σ (some [u]) := fun h => ret_same0 rfl ⟨h, rfl⟩
  simp -implicitDefEqProofs only [c__impl_textField__fits, GateField.vs, S0, S1, S2, S3, S4, S5, S6, S7, S8, S9, S10, S11, S12, S13, S14, S15, S16, S17, opv, opvs, eget, env0, setD, lenStr, lenSl, isNilP, isNilS, putAt, if_true, if_false, reduceCtorEq, Nat.reduceLeDiff, Nat.reduceEqDiff, Nat.reduceSub, Nat.reduceMul, Nat.reduceAdd]
  repeat' (first
    | ((with_reducible refine cond_known (fun h => ?_) (fun h => ?_)) <;> (replace hh := And.intro h hh; clear h; simp -implicitDefEqProofs only [hh, cond_t, cond_f, S0, S1, S2, S3, S4, S5, S6, S7, S8, S9, S10, S11, S12, S13, S14, S15, S16, S17, opv, opvs, eget, env0, setD, lenStr, lenSl, isNilP, isNilS, putAt, if_true, if_false, reduceCtorEq, Nat.reduceLeDiff, Nat.reduceEqDiff, Nat.reduceSub, Nat.reduceMul, Nat.reduceAdd]))
    | (first | ((with_reducible refine fin0 ?_); refine tb ?_; (try simp only [Known] at hh); grind [fitT]) | ((with_reducible refine fin ?_ ?_); rotate_left; exact rfl; refine tb ?_; (try simp only [Known] at hh); grind [fitT])))
  all_goals
    refine loop_p [22, 1, 21] [1, 21] (fun k : Nat => [(22, .t (.int .i64 (k : Nat)))]) (fun k => k ≤ (v).length ∧ ((v).take k).all txtB = true) (fun k => (v).length - k) 0 (by simp) ⟨Nat.zero_le _, rfl⟩ rfl ?_
    rintro k ⟨hk, hall⟩
    simp -implicitDefEqProofs only [keep, List.length_map, S0, S1, S2, S3, S4, S5, S6, S7, S8, S9, S10, S11, S12, S13, S14, S15, S16, S17, opv, opvs, eget, env0, setD, lenStr, lenSl, isNilP, isNilS, putAt, if_true, if_false, reduceCtorEq, Nat.reduceLeDiff, Nat.reduceEqDiff, Nat.reduceSub, Nat.reduceMul, Nat.reduceAdd]
    refine cond_split (fun h1 => ?_) (fun h1 => ?_)
    · obtain ⟨x, hx, hlt⟩ := at_of h1
      clear h1 hh
      have hh : True := trivial
      simp -implicitDefEqProofs only [hx, nat_nn, Nat.zero_le, List.getElem?_map, Option.map_some, i64_succ (show k < 4611686018427387904 by omega), S0, S1, S2, S3, S4, S5, S6, S7, S8, S9, S10, S11, S12, S13, S14, S15, S16, S17, opv, opvs, eget, env0, setD, lenStr, lenSl, isNilP, isNilS, putAt, if_true, if_false, reduceCtorEq, Nat.reduceLeDiff, Nat.reduceEqDiff, Nat.reduceSub, Nat.reduceMul, Nat.reduceAdd]
      repeat' (first
      | ((with_reducible refine cond_known (fun h => ?_) (fun h => ?_)) <;> (replace hh := And.intro h hh; clear h; simp -implicitDefEqProofs only [hh, cond_t, cond_f, hx, nat_nn, Nat.zero_le, List.getElem?_map, Option.map_some, i64_succ (show k < 4611686018427387904 by omega), S0, S1, S2, S3, S4, S5, S6, S7, S8, S9, S10, S11, S12, S13, S14, S15, S16, S17, opv, opvs, eget, env0, setD, lenStr, lenSl, isNilP, isNilS, putAt, if_true, if_false, reduceCtorEq, Nat.reduceLeDiff, Nat.reduceEqDiff, Nat.reduceSub, Nat.reduceMul, Nat.reduceAdd]))
      | (first | ((with_reducible refine fin0 ?_); refine tb ?_; (try simp only [Known] at hh); have hno := all_not (l := (v)) (p := txtB) hx; grind [fitT, txtB, wi]) | ((with_reducible refine fin ?_ ?_); rotate_left; exact rfl; refine tb ?_; (try simp only [Known] at hh); have hno := all_not (l := (v)) (p := txtB) hx; grind [fitT, txtB, wi]) | (refine lk_p0 (k + 1) (by simp) (by simp) (by omega) ⟨by omega, all_step hx hall ?_⟩ rfl; (try simp only [Known] at hh); grind [txtB, wi]) | (refine lk_p (k + 1) (by simp) (by simp) hσ rfl (by omega) ⟨by omega, all_step hx hall ?_⟩ rfl rfl; (try simp only [Known] at hh); grind [txtB, wi]) | (refine lk_pm (k + 1) (Nat.le_refl _) (by simp) hσ rfl rfl (by omega) ⟨by omega, all_step hx hall ?_⟩ (by simp [ltE, keep, eget, V.lt]) rfl; (try simp only [Known] at hh); grind [txtB, wi])))
    replace hall := all_len hall ((end_of h1 hk).trans (by rfl))
    clear h1 hk
    simp -implicitDefEqProofs only [S0, S1, S2, S3, S4, S5, S6, S7, S8, S9, S10, S11, S12, S13, S14, S15, S16, S17, opv, opvs, eget, env0, setD, lenStr, lenSl, isNilP, isNilS, putAt, if_true, if_false, reduceCtorEq, Nat.reduceLeDiff, Nat.reduceEqDiff, Nat.reduceSub, Nat.reduceMul, Nat.reduceAdd]
    (first | ((with_reducible refine fin0 ?_); refine tb ?_; (try simp only [Known] at hh); grind [fitT]) | ((with_reducible refine fin ?_ ?_); rotate_left; exact rfl; refine tb ?_; (try simp only [Known] at hh); grind [fitT]))

def c__impl_linkField__fits : C := (.seq (.ops [⟨(some 2), none, (.box (.t 0))⟩, ⟨(some 4), none, (.mv (.c (.t (.bool false))))⟩]) (.seq (.ops [⟨(some 5), none, (.mv (.t 1))⟩, ⟨(some 6), none, (.call (.c (.fn (.func 50) [])) [(.t 5)])⟩, ⟨(some 4), none, (.mv (.t 6))⟩]) .ret))
theorem k__impl_linkField__fits : comp Try.prog 7 (Try.f89.body.getD .skip) = some c__impl_linkField__fits := by kernel_rfl

theorem _impl_linkField__fits (f : GateField) (hf : f.Ok) (v : List UInt8) (hv : v.length ≤ 1048576)  (σ : Store) : ACalls Try.prog 89 [.agg (f.vs), .t (.str (v))] σ fun rr σ' => rr = .t (.bool (nameOk v)) ∧ σ' = σ := by
  refine acalls_of Try.func89 (by decide +kernel) (code := Try.f89.body.getD .skip) (n := 7) (c := c__impl_linkField__fits) (rs := [(.tmp 4)]) rfl rfl k__impl_linkField__fits (by kernel_rfl) (by simp) (fun hσ => ?_)
  have hh : True := trivial
  have fin : ∀ {u : V} {τ : Store}, u = .t (.bool (nameOk v)) → u.lt σ.length = true → retV σ.length (fun rr σ' => rr = .t (.bool (nameOk v)) ∧ σ' = σ) (σ ++ τ) (some [u]) := fun h h2 => ret_same rfl hσ h2 ⟨h, rfl⟩
  have fin0 : ∀ {u : V}, u = .t (.bool (nameOk v)) → retV σ.length (fun rr σ' => rr = .t (.bool (nameOk v)) ∧ σ' = σ) σ (some [u]) := fun h => ret_same0 rfl ⟨h, rfl⟩
  simp -implicitDefEqProofs only [c__impl_linkField__fits, GateField.vs, S0, S1, S2, S3, S4, S5, S6, S7, S8, S9, S10, S11, S12, S13, S14, S15, S16, S17, opv, opvs, eget, env0, setD, lenStr, lenSl, isNilP, isNilS, putAt, if_true, if_false, reduceCtorEq, Nat.reduceLeDiff, Nat.reduceEqDiff, Nat.reduceSub, Nat.reduceMul, Nat.reduceAdd]
  repeat' (first
    | ((with_reducible refine cond_known (fun h => ?_) (fun h => ?_)) <;> (replace hh := And.intro h hh; clear h; simp -implicitDefEqProofs only [hh, cond_t, cond_f, S0, S1, S2, S3, S4, S5, S6, S7, S8, S9, S10, S11, S12, S13, S14, S15, S16, S17, opv, opvs, eget, env0, setD, lenStr, lenSl, isNilP, isNilS, putAt, if_true, if_false, reduceCtorEq, Nat.reduceLeDiff, Nat.reduceEqDiff, Nat.reduceSub, Nat.reduceMul, Nat.reduceAdd]))
    | ((with_reducible refine call_pure (impl_isName v hv _) ?_); simp -implicitDefEqProofs only [hh, cond_t, cond_f, S0, S1, S2, S3, S4, S5, S6, S7, S8, S9, S10, S11, S12, S13, S14, S15, S16, S17, opv, opvs, eget, env0, setD, lenStr, lenSl, isNilP, isNilS, putAt, if_true, if_false, reduceCtorEq, Nat.reduceLeDiff, Nat.reduceEqDiff, Nat.reduceSub, Nat.reduceMul, Nat.reduceAdd])
    | (first | ((with_reducible refine fin0 ?_); refine tb ?_; (try simp only [Known] at hh); rfl) | ((with_reducible refine fin ?_ ?_); rotate_left; exact rfl; refine tb ?_; (try simp only [Known] at hh); rfl)))

def c_impl_sortOf_1 : C := (.seq (.ops [⟨(some 1), none, (.box (.t 0))⟩, ⟨(some 2), none, (.mv (.c .nili))⟩]) (.seq (.ops [⟨(some 3), none, (.load (some 11) (.t 1))⟩, ⟨(some 4), none, (.build [(.t (.str [])), (.t (.int .i64 0)), (.t (.int .i64 0)), (.t (.int .i64 0)), .nils, (.t (.str [])), (.t (.int .i64 0)), (.t (.bool false)), (.t (.bool false)), (.t (.str [])), (.t (.str []))] [⟨0, ⟨11, (.t 3)⟩⟩])⟩, ⟨(some 5), none, (.iface 90 (.t 4))⟩, ⟨(some 2), none, (.mv (.t 5))⟩]) .ret))
theorem k_impl_sortOf_1 : comp Try.prog 6 (Try.f57.body.getD .skip) = some c_impl_sortOf_1 := by kernel_rfl

theorem impl_sortOf_1 (f : GateField)  (σ : Store) : ACalls Try.prog 57 [.agg (f.vs)] σ fun rr σ' => rr = .iface 90 (.agg f.vs) ∧ σ' = σ := by
  refine acalls_of Try.func57 (by decide +kernel) (code := Try.f57.body.getD .skip) (n := 6) (c := c_impl_sortOf_1) (rs := [(.tmp 2)]) rfl rfl k_impl_sortOf_1 (by kernel_rfl) (by simp) (fun hσ => ?_)
  have hh : True := trivial
  have fin : ∀ {u : V} {τ : Store}, u = .iface 90 (.agg f.vs) → u.lt σ.length = true → retV σ.length (fun rr σ' => rr = .iface 90 (.agg f.vs) ∧ σ' = σ) (σ ++ τ) (some [u]) := fun h h2 => ret_same rfl hσ h2 ⟨h, rfl⟩
  have fin0 : ∀ {u : V}, u = .iface 90 (.agg f.vs) → retV σ.length (fun rr σ' => rr = .iface 90 (.agg f.vs) ∧ σ' = σ) σ (some [u]) := fun h => ret_same0 rfl ⟨h, rfl⟩
  simp -implicitDefEqProofs only [c_impl_sortOf_1, GateField.vs, S0, S1, S2, S3, S4, S5, S6, S7, S8, S9, S10, S11, S12, S13, S14, S15, S16, S17, opv, opvs, eget, env0, setD, lenStr, lenSl, isNilP, isNilS, putAt, if_true, if_false, reduceCtorEq, Nat.reduceLeDiff, Nat.reduceEqDiff, Nat.reduceSub, Nat.reduceMul, Nat.reduceAdd]
  first | exact fin0 rfl | exact fin rfl rfl

def c_impl_sortOf_2 : C := (.seq (.ops [⟨(some 1), none, (.box (.t 0))⟩, ⟨(some 2), none, (.mv (.c .nili))⟩]) (.seq (.ops [⟨(some 3), none, (.load (some 11) (.t 1))⟩, ⟨(some 4), none, (.build [(.t (.str [])), (.t (.int .i64 0)), (.t (.int .i64 0)), (.t (.int .i64 0)), .nils, (.t (.str [])), (.t (.int .i64 0)), (.t (.bool false)), (.t (.bool false)), (.t (.str [])), (.t (.str []))] [⟨0, ⟨11, (.t 3)⟩⟩])⟩, ⟨(some 5), none, (.iface 92 (.t 4))⟩, ⟨(some 2), none, (.mv (.t 5))⟩]) .ret))
theorem k_impl_sortOf_2 : comp Try.prog 6 (Try.f58.body.getD .skip) = some c_impl_sortOf_2 := by kernel_rfl

theorem impl_sortOf_2 (f : GateField)  (σ : Store) : ACalls Try.prog 58 [.agg (f.vs)] σ fun rr σ' => rr = .iface 92 (.agg f.vs) ∧ σ' = σ := by
  refine acalls_of Try.func58 (by decide +kernel) (code := Try.f58.body.getD .skip) (n := 6) (c := c_impl_sortOf_2) (rs := [(.tmp 2)]) rfl rfl k_impl_sortOf_2 (by kernel_rfl) (by simp) (fun hσ => ?_)
  have hh : True := trivial
  have fin : ∀ {u : V} {τ : Store}, u = .iface 92 (.agg f.vs) → u.lt σ.length = true → retV σ.length (fun rr σ' => rr = .iface 92 (.agg f.vs) ∧ σ' = σ) (σ ++ τ) (some [u]) := fun h h2 => ret_same rfl hσ h2 ⟨h, rfl⟩
  have fin0 : ∀ {u : V}, u = .iface 92 (.agg f.vs) → retV σ.length (fun rr σ' => rr = .iface 92 (.agg f.vs) ∧ σ' = σ) σ (some [u]) := fun h => ret_same0 rfl ⟨h, rfl⟩
  simp -implicitDefEqProofs only [c_impl_sortOf_2, GateField.vs, S0, S1, S2, S3, S4, S5, S6, S7, S8, S9, S10, S11, S12, S13, S14, S15, S16, S17, opv, opvs, eget, env0, setD, lenStr, lenSl, isNilP, isNilS, putAt, if_true, if_false, reduceCtorEq, Nat.reduceLeDiff, Nat.reduceEqDiff, Nat.reduceSub, Nat.reduceMul, Nat.reduceAdd]
  first | exact fin0 rfl | exact fin rfl rfl

def c_impl_sortOf_3 : C := (.seq (.ops [⟨(some 1), none, (.box (.t 0))⟩, ⟨(some 2), none, (.mv (.c .nili))⟩]) (.seq (.ops [⟨(some 3), none, (.load (some 11) (.t 1))⟩, ⟨(some 4), none, (.build [(.t (.str [])), (.t (.int .i64 0)), (.t (.int .i64 0)), (.t (.int .i64 0)), .nils, (.t (.str [])), (.t (.int .i64 0)), (.t (.bool false)), (.t (.bool false)), (.t (.str [])), (.t (.str []))] [⟨0, ⟨11, (.t 3)⟩⟩])⟩, ⟨(some 5), none, (.iface 93 (.t 4))⟩, ⟨(some 2), none, (.mv (.t 5))⟩]) .ret))
theorem k_impl_sortOf_3 : comp Try.prog 6 (Try.f59.body.getD .skip) = some c_impl_sortOf_3 := by kernel_rfl

theorem impl_sortOf_3 (f : GateField)  (σ : Store) : ACalls Try.prog 59 [.agg (f.vs)] σ fun rr σ' => rr = .iface 93 (.agg f.vs) ∧ σ' = σ := by
  refine acalls_of Try.func59 (by decide +kernel) (code := Try.f59.body.getD .skip) (n := 6) (c := c_impl_sortOf_3) (rs := [(.tmp 2)]) rfl rfl k_impl_sortOf_3 (by kernel_rfl) (by simp) (fun hσ => ?_)
  have hh : True := trivial
  have fin : ∀ {u : V} {τ : Store}, u = .iface 93 (.agg f.vs) → u.lt σ.length = true → retV σ.length (fun rr σ' => rr = .iface 93 (.agg f.vs) ∧ σ' = σ) (σ ++ τ) (some [u]) := fun h h2 => ret_same rfl hσ h2 ⟨h, rfl⟩
  have fin0 : ∀ {u : V}, u = .iface 93 (.agg f.vs) → retV σ.length (fun rr σ' => rr = .iface 93 (.agg f.vs) ∧ σ' = σ) σ (some [u]) := fun h => ret_same0 rfl ⟨h, rfl⟩
  simp -implicitDefEqProofs only [c_impl_sortOf_3, GateField.vs, S0, S1, S2, S3, S4, S5, S6, S7, S8, S9, S10, S11, S12, S13, S14, S15, S16, S17, opv, opvs, eget, env0, setD, lenStr, lenSl, isNilP, isNilS, putAt, if_true, if_false, reduceCtorEq, Nat.reduceLeDiff, Nat.reduceEqDiff, Nat.reduceSub, Nat.reduceMul, Nat.reduceAdd]
  first | exact fin0 rfl | exact fin rfl rfl

def c_impl_sortOf_4 : C := (.seq (.ops [⟨(some 1), none, (.box (.t 0))⟩, ⟨(some 2), none, (.mv (.c .nili))⟩]) (.seq (.ops [⟨(some 3), none, (.load (some 11) (.t 1))⟩, ⟨(some 4), none, (.build [(.t (.str [])), (.t (.int .i64 0)), (.t (.int .i64 0)), (.t (.int .i64 0)), .nils, (.t (.str [])), (.t (.int .i64 0)), (.t (.bool false)), (.t (.bool false)), (.t (.str [])), (.t (.str []))] [⟨0, ⟨11, (.t 3)⟩⟩])⟩, ⟨(some 5), none, (.iface 94 (.t 4))⟩, ⟨(some 2), none, (.mv (.t 5))⟩]) .ret))
theorem k_impl_sortOf_4 : comp Try.prog 6 (Try.f60.body.getD .skip) = some c_impl_sortOf_4 := by kernel_rfl

theorem impl_sortOf_4 (f : GateField)  (σ : Store) : ACalls Try.prog 60 [.agg (f.vs)] σ fun rr σ' => rr = .iface 94 (.agg f.vs) ∧ σ' = σ := by
  refine acalls_of Try.func60 (by decide +kernel) (code := Try.f60.body.getD .skip) (n := 6) (c := c_impl_sortOf_4) (rs := [(.tmp 2)]) rfl rfl k_impl_sortOf_4 (by kernel_rfl) (by simp) (fun hσ => ?_)
  have hh : True := trivial
  have fin : ∀ {u : V} {τ : Store}, u = .iface 94 (.agg f.vs) → u.lt σ.length = true → retV σ.length (fun rr σ' => rr = .iface 94 (.agg f.vs) ∧ σ' = σ) (σ ++ τ) (some [u]) := fun h h2 => ret_same rfl hσ h2 ⟨h, rfl⟩
  have fin0 : ∀ {u : V}, u = .iface 94 (.agg f.vs) → retV σ.length (fun rr σ' => rr = .iface 94 (.agg f.vs) ∧ σ' = σ) σ (some [u]) := fun h => ret_same0 rfl ⟨h, rfl⟩
  simp -implicitDefEqProofs only [c_impl_sortOf_4, GateField.vs, S0, S1, S2, S3, S4, S5, S6, S7, S8, S9, S10, S11, S12, S13, S14, S15, S16, S17, opv, opvs, eget, env0, setD, lenStr, lenSl, isNilP, isNilS, putAt, if_true, if_false, reduceCtorEq, Nat.reduceLeDiff, Nat.reduceEqDiff, Nat.reduceSub, Nat.reduceMul, Nat.reduceAdd]
  first | exact fin0 rfl | exact fin rfl rfl

def c_impl_sortOf : C := (.seq (.ops [⟨(some 1), none, (.box (.t 0))⟩, ⟨(some 2), none, (.mv (.c .nili))⟩, ⟨(some 3), none, (.mv (.c (.t (.bool false))))⟩]) (.seq (.ops [⟨(some 7), none, .mkMap⟩, ⟨none, none, (.mapUp (.one (.int .i64)) (.t 7) (.c (.t (.int .i64 1))) (.c (.fn (.func 57) [])))⟩, ⟨none, none, (.mapUp (.one (.int .i64)) (.t 7) (.c (.t (.int .i64 2))) (.c (.fn (.func 58) [])))⟩, ⟨none, none, (.mapUp (.one (.int .i64)) (.t 7) (.c (.t (.int .i64 3))) (.c (.fn (.func 59) [])))⟩, ⟨none, none, (.mapUp (.one (.int .i64)) (.t 7) (.c (.t (.int .i64 4))) (.c (.fn (.func 60) [])))⟩, ⟨(some 8), none, (.mv (.t 7))⟩, ⟨(some 4), none, (.mv (.t 8))⟩]) (.seq (.ops [⟨(some 10), none, (.mv (.t 4))⟩, ⟨(some 11), none, (.fieldAddr 1 (.t 1))⟩, ⟨(some 12), none, (.load none (.t 11))⟩, ⟨(some 13), none, (.look (.one (.int .i64)) true .nilf (.t 10) (.t 12))⟩, ⟨(some 9), none, (.mv (.t 13))⟩, ⟨(some 14), none, (.extract (.t 9) 0)⟩, ⟨(some 15), none, (.extract (.t 9) 1)⟩, ⟨(some 5), none, (.mv (.t 14))⟩, ⟨(some 6), none, (.mv (.t 15))⟩]) (.seq (.seq (.ops [⟨(some 16), none, (.mv (.t 6))⟩, ⟨(some 17), none, (.un .not (.t 16))⟩]) (.cond (.t 17) (.seq (.ops [⟨(some 2), none, (.mv (.c .nili))⟩, ⟨(some 3), none, (.mv (.c (.t (.bool false))))⟩]) .ret) .skip)) (.seq (.ops [⟨(some 18), none, (.mv (.t 5))⟩, ⟨(some 19), none, (.load (some 11) (.t 1))⟩, ⟨(some 20), none, (.call (.t 18) [(.t 19)])⟩, ⟨(some 2), none, (.mv (.t 20))⟩, ⟨(some 3), none, (.mv (.c (.t (.bool true))))⟩]) .ret)))))
theorem k_impl_sortOf : comp Try.prog 21 (Try.f51.body.getD .skip) = some c_impl_sortOf := by kernel_rfl

theorem impl_sortOf (f : GateField)  (σ : Store) : ACalls Try.prog 51 [.agg (f.vs)] σ fun rr σ' => rr = .tup [sortV f, .t (.bool (sortB f))] ∧ σ' = σ := by
  refine acalls_of Try.func51 (by decide +kernel) (code := Try.f51.body.getD .skip) (n := 21) (c := c_impl_sortOf) (rs := [(.tmp 2), (.tmp 3)]) rfl rfl k_impl_sortOf (by kernel_rfl) (by simp) (fun hσ => ?_)
  have hh : True := trivial
  have fin : ∀ {a b : V} {τ : Store}, V.tup [a, b] = .tup [sortV f, .t (.bool (sortB f))] → (V.tup [a, b]).lt σ.length = true → retV σ.length (fun rr σ' => rr = .tup [sortV f, .t (.bool (sortB f))] ∧ σ' = σ) (σ ++ τ) (some [a, b]) := fun h h2 => ret_same rfl hσ h2 ⟨h, rfl⟩
  have fin0 : ∀ {a b : V}, V.tup [a, b] = .tup [sortV f, .t (.bool (sortB f))] → retV σ.length (fun rr σ' => rr = .tup [sortV f, .t (.bool (sortB f))] ∧ σ' = σ) σ (some [a, b]) := fun h => ret_same0 rfl ⟨h, rfl⟩
  have e12 : ((1 : Int) == 2) = false := rfl
  rcases kinds f with h | h | h | h | ⟨h1, h2, h3, h4⟩
  · have hs : sortV f = .iface 90 (.agg f.vs) := by simp [sortV, h]
    have hb : sortB f = true := by simp [sortB, h]
    simp -implicitDefEqProofs only [c_impl_sortOf, h, findM_c, putM_c, kEq_i, ok_i, Int.reduceBEq, Bool.true_and, Bool.and_true, if_true, if_false, GateField.vs, S0, S1, S2, S3, S4, S5, S6, S7, S8, S9, S10, S11, S12, S13, S14, S15, S16, S17, opv, opvs, eget, env0, setD, lenStr, lenSl, isNilP, isNilS, putAt, if_true, if_false, reduceCtorEq, Nat.reduceLeDiff, Nat.reduceEqDiff, Nat.reduceSub, Nat.reduceMul, Nat.reduceAdd]
    refine call_pure (by have := impl_sortOf_1 f; simpa only [GateField.vs, h] using this _) ?_
    simp -implicitDefEqProofs only [h, S0, S1, S2, S3, S4, S5, S6, S7, S8, S9, S10, S11, S12, S13, S14, S15, S16, S17, opv, opvs, eget, env0, setD, lenStr, lenSl, isNilP, isNilS, putAt, if_true, if_false, reduceCtorEq, Nat.reduceLeDiff, Nat.reduceEqDiff, Nat.reduceSub, Nat.reduceMul, Nat.reduceAdd]
    first | exact fin0 (by rw [hs, hb, GateField.vs, h]) | exact fin (by rw [hs, hb, GateField.vs, h]) rfl
  · have hs : sortV f = .iface 92 (.agg f.vs) := by simp [sortV, h]
    have hb : sortB f = true := by simp [sortB, h]
    simp -implicitDefEqProofs only [c_impl_sortOf, h, findM_c, putM_c, kEq_i, ok_i, Int.reduceBEq, Bool.true_and, Bool.and_true, if_true, if_false, GateField.vs, S0, S1, S2, S3, S4, S5, S6, S7, S8, S9, S10, S11, S12, S13, S14, S15, S16, S17, opv, opvs, eget, env0, setD, lenStr, lenSl, isNilP, isNilS, putAt, if_true, if_false, reduceCtorEq, Nat.reduceLeDiff, Nat.reduceEqDiff, Nat.reduceSub, Nat.reduceMul, Nat.reduceAdd]
    refine call_pure (by have := impl_sortOf_2 f; simpa only [GateField.vs, h] using this _) ?_
    simp -implicitDefEqProofs only [h, S0, S1, S2, S3, S4, S5, S6, S7, S8, S9, S10, S11, S12, S13, S14, S15, S16, S17, opv, opvs, eget, env0, setD, lenStr, lenSl, isNilP, isNilS, putAt, if_true, if_false, reduceCtorEq, Nat.reduceLeDiff, Nat.reduceEqDiff, Nat.reduceSub, Nat.reduceMul, Nat.reduceAdd]
    first | exact fin0 (by rw [hs, hb, GateField.vs, h]) | exact fin (by rw [hs, hb, GateField.vs, h]) rfl
  · have hs : sortV f = .iface 93 (.agg f.vs) := by simp [sortV, h]
    have hb : sortB f = true := by simp [sortB, h]
    simp -implicitDefEqProofs only [c_impl_sortOf, h, findM_c, putM_c, kEq_i, ok_i, Int.reduceBEq, Bool.true_and, Bool.and_true, if_true, if_false, GateField.vs, S0, S1, S2, S3, S4, S5, S6, S7, S8, S9, S10, S11, S12, S13, S14, S15, S16, S17, opv, opvs, eget, env0, setD, lenStr, lenSl, isNilP, isNilS, putAt, if_true, if_false, reduceCtorEq, Nat.reduceLeDiff, Nat.reduceEqDiff, Nat.reduceSub, Nat.reduceMul, Nat.reduceAdd]
    refine call_pure (by have := impl_sortOf_3 f; simpa only [GateField.vs, h] using this _) ?_
    simp -implicitDefEqProofs only [h, S0, S1, S2, S3, S4, S5, S6, S7, S8, S9, S10, S11, S12, S13, S14, S15, S16, S17, opv, opvs, eget, env0, setD, lenStr, lenSl, isNilP, isNilS, putAt, if_true, if_false, reduceCtorEq, Nat.reduceLeDiff, Nat.reduceEqDiff, Nat.reduceSub, Nat.reduceMul, Nat.reduceAdd]
    first | exact fin0 (by rw [hs, hb, GateField.vs, h]) | exact fin (by rw [hs, hb, GateField.vs, h]) rfl
  · have hs : sortV f = .iface 94 (.agg f.vs) := by simp [sortV, h]
    have hb : sortB f = true := by simp [sortB, h]
    simp -implicitDefEqProofs only [c_impl_sortOf, h, findM_c, putM_c, kEq_i, ok_i, Int.reduceBEq, Bool.true_and, Bool.and_true, if_true, if_false, GateField.vs, S0, S1, S2, S3, S4, S5, S6, S7, S8, S9, S10, S11, S12, S13, S14, S15, S16, S17, opv, opvs, eget, env0, setD, lenStr, lenSl, isNilP, isNilS, putAt, if_true, if_false, reduceCtorEq, Nat.reduceLeDiff, Nat.reduceEqDiff, Nat.reduceSub, Nat.reduceMul, Nat.reduceAdd]
    refine call_pure (by have := impl_sortOf_4 f; simpa only [GateField.vs, h] using this _) ?_
    simp -implicitDefEqProofs only [h, S0, S1, S2, S3, S4, S5, S6, S7, S8, S9, S10, S11, S12, S13, S14, S15, S16, S17, opv, opvs, eget, env0, setD, lenStr, lenSl, isNilP, isNilS, putAt, if_true, if_false, reduceCtorEq, Nat.reduceLeDiff, Nat.reduceEqDiff, Nat.reduceSub, Nat.reduceMul, Nat.reduceAdd]
    first | exact fin0 (by rw [hs, hb, GateField.vs, h]) | exact fin (by rw [hs, hb, GateField.vs, h]) rfl
  · have hs : sortV f = .nili := by simp only [beq_eq_false_iff_ne] at h1 h2 h3 h4; simp [sortV, h1, h2, h3, h4]
    have hb : sortB f = false := by simp [sortB, h1, h2, h3, h4]
    simp -implicitDefEqProofs only [c_impl_sortOf, h1, h2, h3, h4, findM_c, putM_c, kEq_i, ok_i, Int.reduceBEq, Bool.true_and, Bool.and_true, if_true, if_false, GateField.vs, S0, S1, S2, S3, S4, S5, S6, S7, S8, S9, S10, S11, S12, S13, S14, S15, S16, S17, opv, opvs, eget, env0, setD, lenStr, lenSl, isNilP, isNilS, putAt, if_true, if_false, reduceCtorEq, Nat.reduceLeDiff, Nat.reduceEqDiff, Nat.reduceSub, Nat.reduceMul, Nat.reduceAdd]
    first | exact fin0 (by rw [hs, hb]) | exact fin (by rw [hs, hb]) rfl

theorem m_fits1 : methodOf Try.prog 90 "loop.example/wharfdesk/impl.fits" = some 79 := by kernel_rfl
theorem m_fits2 : methodOf Try.prog 92 "loop.example/wharfdesk/impl.fits" = some 83 := by kernel_rfl
theorem m_fits3 : methodOf Try.prog 93 "loop.example/wharfdesk/impl.fits" = some 86 := by kernel_rfl
theorem m_fits4 : methodOf Try.prog 94 "loop.example/wharfdesk/impl.fits" = some 89 := by kernel_rfl
def c_impl_GateFits : C := (.seq (.ops [⟨(some 2), none, (.box (.t 0))⟩, ⟨(some 4), none, (.mv (.c (.t (.bool false))))⟩]) (.seq (.ops [⟨(some 8), none, (.load (some 11) (.t 2))⟩, ⟨(some 9), none, (.call (.c (.fn (.func 51) [])) [(.t 8)])⟩, ⟨(some 7), none, (.mv (.t 9))⟩, ⟨(some 10), none, (.extract (.t 7) 0)⟩, ⟨(some 11), none, (.extract (.t 7) 1)⟩, ⟨(some 5), none, (.mv (.t 10))⟩, ⟨(some 6), none, (.mv (.t 11))⟩]) (.seq (.ops [⟨(some 12), none, (.mv (.t 6))⟩, ⟨(some 13), none, (.mv (.t 12))⟩, ⟨(some 14), (some ⟨13, true⟩), (.mv (.t 1))⟩, ⟨(some 15), (some ⟨13, true⟩), (.bin .neq (.t 14) (.c (.t (.str []))))⟩, ⟨(some 16), none, (.pick (.t 13) (.t 15) (.c (.t (.bool false))))⟩, ⟨(some 17), none, (.mv (.t 16))⟩, ⟨(some 18), (some ⟨17, true⟩), (.mv (.t 5))⟩, ⟨(some 19), (some ⟨17, true⟩), (.mv (.t 1))⟩, ⟨(some 20), (some ⟨17, true⟩), (.call (.m 18 "loop.example/wharfdesk/impl.fits") [(.t 19)])⟩, ⟨(some 21), none, (.pick (.t 17) (.t 20) (.c (.t (.bool false))))⟩, ⟨(some 4), none, (.mv (.t 21))⟩]) .ret)))
theorem k_impl_GateFits : comp Try.prog 22 (Try.f39.body.getD .skip) = some c_impl_GateFits := by kernel_rfl

theorem impl_GateFits (f : GateField) (hf : f.Ok) (v : List UInt8) (hv : v.length ≤ 1048576)  (σ : Store) : ACalls Try.prog 39 [.agg (f.vs), .t (.str (v))] σ fun rr σ' => rr = .t (.bool (fitsG f v)) ∧ σ' = σ := by
  refine acalls_of Try.func39 (by decide +kernel) (code := Try.f39.body.getD .skip) (n := 22) (c := c_impl_GateFits) (rs := [(.tmp 4)]) rfl rfl k_impl_GateFits (by kernel_rfl) (by simp) (fun hσ => ?_)
  have hh : True := trivial
  have fin : ∀ {u : V} {τ : Store}, u = .t (.bool (fitsG f v)) → u.lt σ.length = true → retV σ.length (fun rr σ' => rr = .t (.bool (fitsG f v)) ∧ σ' = σ) (σ ++ τ) (some [u]) := fun h h2 => ret_same rfl hσ h2 ⟨h, rfl⟩
  have fin0 : ∀ {u : V}, u = .t (.bool (fitsG f v)) → retV σ.length (fun rr σ' => rr = .t (.bool (fitsG f v)) ∧ σ' = σ) σ (some [u]) := fun h => ret_same0 rfl ⟨h, rfl⟩
  simp -implicitDefEqProofs only [c_impl_GateFits, GateField.vs, S0, S1, S2, S3, S4, S5, S6, S7, S8, S9, S10, S11, S12, S13, S14, S15, S16, S17, opv, opvs, eget, env0, setD, lenStr, lenSl, isNilP, isNilS, putAt, if_true, if_false, reduceCtorEq, Nat.reduceLeDiff, Nat.reduceEqDiff, Nat.reduceSub, Nat.reduceMul, Nat.reduceAdd]
  rw [← GateField.vs]
  refine call_pure (impl_sortOf f _) ?_
  rcases hv0 : (v == []) with _ | _
  · have hv1 : (v != []) = true := by rw [bne, hv0]; rfl
    rcases kinds f with h | h | h | h | ⟨h1, h2, h3, h4⟩
    · have hs : sortV f = .iface 90 (.agg f.vs) := by simp [sortV, h]
      have hb : sortB f = true := by simp [sortB, h]
      have hr : fitsG f v = fitN f v := by simp [fitsG, h, hv0]
      rw [hs, hb]
      simp -implicitDefEqProofs only [hv0, hv1, m_fits1, cond_t, cond_f, S0, S1, S2, S3, S4, S5, S6, S7, S8, S9, S10, S11, S12, S13, S14, S15, S16, S17, opv, opvs, eget, env0, setD, lenStr, lenSl, isNilP, isNilS, putAt, if_true, if_false, reduceCtorEq, Nat.reduceLeDiff, Nat.reduceEqDiff, Nat.reduceSub, Nat.reduceMul, Nat.reduceAdd]
      refine meth_pure (_impl_numberField__fits f hf v hv _) ?_
      try simp -implicitDefEqProofs only [hv1, cond_t, cond_f, S0, S1, S2, S3, S4, S5, S6, S7, S8, S9, S10, S11, S12, S13, S14, S15, S16, S17, opv, opvs, eget, env0, setD, lenStr, lenSl, isNilP, isNilS, putAt, if_true, if_false, reduceCtorEq, Nat.reduceLeDiff, Nat.reduceEqDiff, Nat.reduceSub, Nat.reduceMul, Nat.reduceAdd]
      first | exact fin0 (tb (hr.symm)) | exact fin (tb (hr.symm)) rfl
    · have hs : sortV f = .iface 92 (.agg f.vs) := by simp [sortV, h]
      have hb : sortB f = true := by simp [sortB, h]
      have hr : fitsG f v = hasW f.Words v := by simp [fitsG, h, hv0]
      rw [hs, hb]
      simp -implicitDefEqProofs only [hv0, hv1, m_fits2, cond_t, cond_f, S0, S1, S2, S3, S4, S5, S6, S7, S8, S9, S10, S11, S12, S13, S14, S15, S16, S17, opv, opvs, eget, env0, setD, lenStr, lenSl, isNilP, isNilS, putAt, if_true, if_false, reduceCtorEq, Nat.reduceLeDiff, Nat.reduceEqDiff, Nat.reduceSub, Nat.reduceMul, Nat.reduceAdd]
      refine meth_pure (_impl_wordField__fits f hf v hv _) ?_
      try simp -implicitDefEqProofs only [hv1, cond_t, cond_f, S0, S1, S2, S3, S4, S5, S6, S7, S8, S9, S10, S11, S12, S13, S14, S15, S16, S17, opv, opvs, eget, env0, setD, lenStr, lenSl, isNilP, isNilS, putAt, if_true, if_false, reduceCtorEq, Nat.reduceLeDiff, Nat.reduceEqDiff, Nat.reduceSub, Nat.reduceMul, Nat.reduceAdd]
      first | exact fin0 (tb (hr.symm)) | exact fin (tb (hr.symm)) rfl
    · have hs : sortV f = .iface 93 (.agg f.vs) := by simp [sortV, h]
      have hb : sortB f = true := by simp [sortB, h]
      have hr : fitsG f v = fitT f v := by simp [fitsG, h, hv0]
      rw [hs, hb]
      simp -implicitDefEqProofs only [hv0, hv1, m_fits3, cond_t, cond_f, S0, S1, S2, S3, S4, S5, S6, S7, S8, S9, S10, S11, S12, S13, S14, S15, S16, S17, opv, opvs, eget, env0, setD, lenStr, lenSl, isNilP, isNilS, putAt, if_true, if_false, reduceCtorEq, Nat.reduceLeDiff, Nat.reduceEqDiff, Nat.reduceSub, Nat.reduceMul, Nat.reduceAdd]
      refine meth_pure (_impl_textField__fits f hf v hv _) ?_
      try simp -implicitDefEqProofs only [hv1, cond_t, cond_f, S0, S1, S2, S3, S4, S5, S6, S7, S8, S9, S10, S11, S12, S13, S14, S15, S16, S17, opv, opvs, eget, env0, setD, lenStr, lenSl, isNilP, isNilS, putAt, if_true, if_false, reduceCtorEq, Nat.reduceLeDiff, Nat.reduceEqDiff, Nat.reduceSub, Nat.reduceMul, Nat.reduceAdd]
      first | exact fin0 (tb (hr.symm)) | exact fin (tb (hr.symm)) rfl
    · have hs : sortV f = .iface 94 (.agg f.vs) := by simp [sortV, h]
      have hb : sortB f = true := by simp [sortB, h]
      have hr : fitsG f v = nameOk v := by simp [fitsG, h, hv0]
      rw [hs, hb]
      simp -implicitDefEqProofs only [hv0, hv1, m_fits4, cond_t, cond_f, S0, S1, S2, S3, S4, S5, S6, S7, S8, S9, S10, S11, S12, S13, S14, S15, S16, S17, opv, opvs, eget, env0, setD, lenStr, lenSl, isNilP, isNilS, putAt, if_true, if_false, reduceCtorEq, Nat.reduceLeDiff, Nat.reduceEqDiff, Nat.reduceSub, Nat.reduceMul, Nat.reduceAdd]
      refine meth_pure (_impl_linkField__fits f hf v hv _) ?_
      try simp -implicitDefEqProofs only [hv1, cond_t, cond_f, S0, S1, S2, S3, S4, S5, S6, S7, S8, S9, S10, S11, S12, S13, S14, S15, S16, S17, opv, opvs, eget, env0, setD, lenStr, lenSl, isNilP, isNilS, putAt, if_true, if_false, reduceCtorEq, Nat.reduceLeDiff, Nat.reduceEqDiff, Nat.reduceSub, Nat.reduceMul, Nat.reduceAdd]
      first | exact fin0 (tb (hr.symm)) | exact fin (tb (hr.symm)) rfl
    · have hs : sortV f = .nili := by simp only [beq_eq_false_iff_ne] at h1 h2 h3 h4; simp [sortV, h1, h2, h3, h4]
      have hb : sortB f = false := by simp [sortB, h1, h2, h3, h4]
      have hr : fitsG f v = false := by simp only [beq_eq_false_iff_ne] at h1 h2 h3 h4; simp [fitsG, h1, h2, h3, h4]
      rw [hs, hb]
      simp -implicitDefEqProofs only [hv0, hv1, cond_t, cond_f, S0, S1, S2, S3, S4, S5, S6, S7, S8, S9, S10, S11, S12, S13, S14, S15, S16, S17, opv, opvs, eget, env0, setD, lenStr, lenSl, isNilP, isNilS, putAt, if_true, if_false, reduceCtorEq, Nat.reduceLeDiff, Nat.reduceEqDiff, Nat.reduceSub, Nat.reduceMul, Nat.reduceAdd]
      first | exact fin0 (tb (hr.symm)) | exact fin (tb (hr.symm)) rfl
  · have hv1 : (v != []) = false := by rw [bne, hv0]; rfl
    have hr : fitsG f v = false := by unfold fitsG; simp [hv0, fitN_ne hv0, name_ne hv0]
    rcases hb : sortB f with _ | _
    · simp -implicitDefEqProofs only [hv0, hv1, cond_t, cond_f, S0, S1, S2, S3, S4, S5, S6, S7, S8, S9, S10, S11, S12, S13, S14, S15, S16, S17, opv, opvs, eget, env0, setD, lenStr, lenSl, isNilP, isNilS, putAt, if_true, if_false, reduceCtorEq, Nat.reduceLeDiff, Nat.reduceEqDiff, Nat.reduceSub, Nat.reduceMul, Nat.reduceAdd]
      first | exact fin0 (tb (hr.symm)) | exact fin (tb (hr.symm)) rfl
    · simp -implicitDefEqProofs only [hv0, hv1, cond_t, cond_f, S0, S1, S2, S3, S4, S5, S6, S7, S8, S9, S10, S11, S12, S13, S14, S15, S16, S17, opv, opvs, eget, env0, setD, lenStr, lenSl, isNilP, isNilS, putAt, if_true, if_false, reduceCtorEq, Nat.reduceLeDiff, Nat.reduceEqDiff, Nat.reduceSub, Nat.reduceMul, Nat.reduceAdd]
      first | exact fin0 (tb (hr.symm)) | exact fin (tb (hr.symm)) rfl

def c_spec_GateFits : C := (.seq (.ops [⟨(some 2), none, (.box (.t 0))⟩, ⟨(some 4), none, (.mv (.c (.t (.bool false))))⟩]) (.seq (.seq (.ops [⟨(some 7), none, (.fieldAddr 1 (.t 2))⟩, ⟨(some 8), none, (.load none (.t 7))⟩]) (.block 0 (.seq (.ops [⟨(some 10), none, (.bin .eql (.t 8) (.c (.t (.int .i64 1))))⟩, ⟨(some 9), none, (.mv (.t 10))⟩]) (.cond (.t 9) (.seq (.ops [⟨(some 11), none, (.mv (.t 1))⟩, ⟨(some 12), none, (.call (.c (.fn (.func 48) [])) [(.t 11)])⟩, ⟨(some 5), none, (.mv (.t 12))⟩]) (.seq (.ops [⟨(some 13), none, (.mv (.t 5))⟩, ⟨(some 14), none, (.bin .geq (.t 13) (.c (.t (.int .i64 0))))⟩, ⟨(some 15), none, (.mv (.t 14))⟩, ⟨(some 16), (some ⟨15, true⟩), (.mv (.t 5))⟩, ⟨(some 17), (some ⟨15, true⟩), (.fieldAddr 2 (.t 2))⟩, ⟨(some 18), (some ⟨15, true⟩), (.load none (.t 17))⟩, ⟨(some 19), (some ⟨15, true⟩), (.fieldAddr 3 (.t 2))⟩, ⟨(some 20), (some ⟨15, true⟩), (.load none (.t 19))⟩, ⟨(some 21), (some ⟨15, true⟩), (.call (.c (.fn (.func 44) [])) [(.t 16), (.t 18), (.t 20)])⟩, ⟨(some 22), none, (.pick (.t 15) (.t 21) (.c (.t (.bool false))))⟩, ⟨(some 4), none, (.mv (.t 22))⟩]) .ret)) (.seq (.ops [⟨(some 24), none, (.bin .eql (.t 8) (.c (.t (.int .i64 2))))⟩, ⟨(some 23), none, (.mv (.t 24))⟩]) (.cond (.t 23) (.seq (.ops [⟨(some 25), none, (.mv (.t 1))⟩, ⟨(some 26), none, (.bin .neq (.t 25) (.c (.t (.str []))))⟩, ⟨(some 27), none, (.mv (.t 26))⟩, ⟨(some 28), (some ⟨27, true⟩), (.fieldAddr 4 (.t 2))⟩, ⟨(some 29), (some ⟨27, true⟩), (.load none (.t 28))⟩, ⟨(some 30), (some ⟨27, true⟩), (.mv (.t 1))⟩, ⟨(some 31), (some ⟨27, true⟩), (.call (.c (.fn (.func 32) [])) [(.t 29), (.t 30)])⟩, ⟨(some 32), none, (.pick (.t 27) (.t 31) (.c (.t (.bool false))))⟩, ⟨(some 4), none, (.mv (.t 32))⟩]) .ret) (.seq (.ops [⟨(some 34), none, (.bin .eql (.t 8) (.c (.t (.int .i64 3))))⟩, ⟨(some 33), none, (.mv (.t 34))⟩]) (.cond (.t 33) (.seq (.seq (.ops [⟨(some 6), none, (.mv (.c (.t (.int .i64 0))))⟩]) (.block 1 (.loop (.seq (.seq (.ops [⟨(some 35), none, (.mv (.t 6))⟩, ⟨(some 36), none, (.mv (.t 1))⟩, ⟨(some 37), none, (.len true (.t 36))⟩, ⟨(some 38), none, (.bin .lss (.t 35) (.t 37))⟩]) (.cond (.t 38) .skip (.exit 1))) (.seq (.block 2 (.seq (.ops [⟨(some 41), none, (.mv (.t 1))⟩, ⟨(some 42), none, (.mv (.t 6))⟩, ⟨(some 43), none, (.index (.t 41) (.t 42))⟩, ⟨(some 44), none, (.convInt .i64 (.t 43))⟩, ⟨(some 45), none, (.call (.c (.fn (.func 44) [])) [(.t 44), (.c (.t (.int .i64 33))), (.c (.t (.int .i64 126)))])⟩, ⟨(some 46), none, (.un .not (.t 45))⟩]) (.cond (.t 46) (.seq (.ops [⟨(some 4), none, (.mv (.c (.t (.bool false))))⟩]) .ret) .skip))) (.ops [⟨(some 39), none, (.mv (.t 6))⟩, ⟨(some 40), none, (.bin .add (.t 39) (.c (.t (.int .i64 1))))⟩, ⟨(some 6), none, (.mv (.t 40))⟩])))))) (.seq (.ops [⟨(some 47), none, (.mv (.t 1))⟩, ⟨(some 48), none, (.bin .neq (.t 47) (.c (.t (.str []))))⟩, ⟨(some 49), none, (.mv (.t 48))⟩, ⟨(some 50), (some ⟨49, true⟩), (.mv (.t 1))⟩, ⟨(some 51), (some ⟨49, true⟩), (.len true (.t 50))⟩, ⟨(some 52), (some ⟨49, true⟩), (.fieldAddr 2 (.t 2))⟩, ⟨(some 53), (some ⟨49, true⟩), (.load none (.t 52))⟩, ⟨(some 54), (some ⟨49, true⟩), (.fieldAddr 3 (.t 2))⟩, ⟨(some 55), (some ⟨49, true⟩), (.load none (.t 54))⟩, ⟨(some 56), (some ⟨49, true⟩), (.call (.c (.fn (.func 44) [])) [(.t 51), (.t 53), (.t 55)])⟩, ⟨(some 57), none, (.pick (.t 49) (.t 56) (.c (.t (.bool false))))⟩, ⟨(some 4), none, (.mv (.t 57))⟩]) .ret)) (.seq (.ops [⟨(some 59), none, (.bin .eql (.t 8) (.c (.t (.int .i64 4))))⟩, ⟨(some 58), none, (.mv (.t 59))⟩]) (.cond (.t 58) (.seq (.ops [⟨(some 60), none, (.mv (.t 1))⟩, ⟨(some 61), none, (.call (.c (.fn (.func 26) [])) [(.t 60)])⟩, ⟨(some 4), none, (.mv (.t 61))⟩]) .ret) .skip)))))))))) (.seq (.ops [⟨(some 4), none, (.mv (.c (.t (.bool false))))⟩]) .ret)))
theorem k_spec_GateFits : comp Try.prog 62 (Try.f30.body.getD .skip) = some c_spec_GateFits := by kernel_rfl

theorem spec_GateFits (f : GateField) (hf : f.Ok) (v : List UInt8) (hv : v.length ≤ 1048576)  (σ : Store) : ACalls Try.prog 30 [.agg (f.vs), .t (.str (v))] σ fun rr σ' => rr = .t (.bool (fitsG f v)) ∧ σ' = σ := by
  refine acalls_of Try.func30 (by decide +kernel) (code := Try.f30.body.getD .skip) (n := 62) (c := c_spec_GateFits) (rs := [(.tmp 4)]) rfl rfl k_spec_GateFits (by kernel_rfl) (by simp) (fun hσ => ?_)
  have hh : True := trivial
  have fin : ∀ {u : V} {τ : Store}, u = .t (.bool (fitsG f v)) → u.lt σ.length = true → retV σ.length (fun rr σ' => rr = .t (.bool (fitsG f v)) ∧ σ' = σ) (σ ++ τ) (some [u]) := fun h h2 => ret_same rfl hσ h2 ⟨h, rfl⟩
  have fin0 : ∀ {u : V}, u = .t (.bool (fitsG f v)) → retV σ.length (fun rr σ' => rr = .t (.bool (fitsG f v)) ∧ σ' = σ) σ (some [u]) := fun h => ret_same0 rfl ⟨h, rfl⟩
  have y1 := hf.Words.1
  rcases kinds f with h | h | h | h | ⟨h1, h2, h3, h4⟩
  · have hr : fitsG f v = fitN f v := by simp [fitsG, h]
    have hn := dec_num v
    have hd := dec_bnd v
    simp -implicitDefEqProofs only [c_spec_GateFits, h, Int.reduceBEq, cond_t, cond_f, GateField.vs, S0, S1, S2, S3, S4, S5, S6, S7, S8, S9, S10, S11, S12, S13, S14, S15, S16, S17, opv, opvs, eget, env0, setD, lenStr, lenSl, isNilP, isNilS, putAt, if_true, if_false, reduceCtorEq, Nat.reduceLeDiff, Nat.reduceEqDiff, Nat.reduceSub, Nat.reduceMul, Nat.reduceAdd]
    repeat' (first
      | ((with_reducible refine cond_known (fun h => ?_) (fun h => ?_)) <;> (replace hh := And.intro h hh; clear h; simp -implicitDefEqProofs only [hh, cond_t, cond_f, S0, S1, S2, S3, S4, S5, S6, S7, S8, S9, S10, S11, S12, S13, S14, S15, S16, S17, opv, opvs, eget, env0, setD, lenStr, lenSl, isNilP, isNilS, putAt, if_true, if_false, reduceCtorEq, Nat.reduceLeDiff, Nat.reduceEqDiff, Nat.reduceSub, Nat.reduceMul, Nat.reduceAdd]))
      | ((with_reducible refine call_pure (spec_l1Number v hv _) ?_); simp -implicitDefEqProofs only [hh, cond_t, cond_f, S0, S1, S2, S3, S4, S5, S6, S7, S8, S9, S10, S11, S12, S13, S14, S15, S16, S17, opv, opvs, eget, env0, setD, lenStr, lenSl, isNilP, isNilS, putAt, if_true, if_false, reduceCtorEq, Nat.reduceLeDiff, Nat.reduceEqDiff, Nat.reduceSub, Nat.reduceMul, Nat.reduceAdd])
      | ((with_reducible refine call_pure (spec_l1In _ _ _ _) ?_); simp -implicitDefEqProofs only [hh, cond_t, cond_f, S0, S1, S2, S3, S4, S5, S6, S7, S8, S9, S10, S11, S12, S13, S14, S15, S16, S17, opv, opvs, eget, env0, setD, lenStr, lenSl, isNilP, isNilS, putAt, if_true, if_false, reduceCtorEq, Nat.reduceLeDiff, Nat.reduceEqDiff, Nat.reduceSub, Nat.reduceMul, Nat.reduceAdd])
      | ((with_reducible refine call_pure (spec_l1NameOk v hv _) ?_); simp -implicitDefEqProofs only [hh, cond_t, cond_f, S0, S1, S2, S3, S4, S5, S6, S7, S8, S9, S10, S11, S12, S13, S14, S15, S16, S17, opv, opvs, eget, env0, setD, lenStr, lenSl, isNilP, isNilS, putAt, if_true, if_false, reduceCtorEq, Nat.reduceLeDiff, Nat.reduceEqDiff, Nat.reduceSub, Nat.reduceMul, Nat.reduceAdd])
      | ((with_reducible refine call_pure (spec_l1Has f.Words y1 v _) ?_); simp -implicitDefEqProofs only [hh, cond_t, cond_f, S0, S1, S2, S3, S4, S5, S6, S7, S8, S9, S10, S11, S12, S13, S14, S15, S16, S17, opv, opvs, eget, env0, setD, lenStr, lenSl, isNilP, isNilS, putAt, if_true, if_false, reduceCtorEq, Nat.reduceLeDiff, Nat.reduceEqDiff, Nat.reduceSub, Nat.reduceMul, Nat.reduceAdd])
      | (first | ((with_reducible refine fin0 ?_); refine tb ?_; (try simp only [Known] at hh); rw [hr]; rcases hd.2.2 with h5 | ⟨h5, h6⟩ <;> grind [fitN, wi]) | ((with_reducible refine fin ?_ ?_); rotate_left; exact rfl; refine tb ?_; (try simp only [Known] at hh); rw [hr]; rcases hd.2.2 with h5 | ⟨h5, h6⟩ <;> grind [fitN, wi])))
  · have hr : fitsG f v = (!(v == []) && hasW f.Words v) := by simp [fitsG, h]
    simp -implicitDefEqProofs only [c_spec_GateFits, h, Int.reduceBEq, cond_t, cond_f, GateField.vs, S0, S1, S2, S3, S4, S5, S6, S7, S8, S9, S10, S11, S12, S13, S14, S15, S16, S17, opv, opvs, eget, env0, setD, lenStr, lenSl, isNilP, isNilS, putAt, if_true, if_false, reduceCtorEq, Nat.reduceLeDiff, Nat.reduceEqDiff, Nat.reduceSub, Nat.reduceMul, Nat.reduceAdd]
    repeat' (first
      | ((with_reducible refine cond_known (fun h => ?_) (fun h => ?_)) <;> (replace hh := And.intro h hh; clear h; simp -implicitDefEqProofs only [hh, cond_t, cond_f, S0, S1, S2, S3, S4, S5, S6, S7, S8, S9, S10, S11, S12, S13, S14, S15, S16, S17, opv, opvs, eget, env0, setD, lenStr, lenSl, isNilP, isNilS, putAt, if_true, if_false, reduceCtorEq, Nat.reduceLeDiff, Nat.reduceEqDiff, Nat.reduceSub, Nat.reduceMul, Nat.reduceAdd]))
      | ((with_reducible refine call_pure (spec_l1Number v hv _) ?_); simp -implicitDefEqProofs only [hh, cond_t, cond_f, S0, S1, S2, S3, S4, S5, S6, S7, S8, S9, S10, S11, S12, S13, S14, S15, S16, S17, opv, opvs, eget, env0, setD, lenStr, lenSl, isNilP, isNilS, putAt, if_true, if_false, reduceCtorEq, Nat.reduceLeDiff, Nat.reduceEqDiff, Nat.reduceSub, Nat.reduceMul, Nat.reduceAdd])
      | ((with_reducible refine call_pure (spec_l1In _ _ _ _) ?_); simp -implicitDefEqProofs only [hh, cond_t, cond_f, S0, S1, S2, S3, S4, S5, S6, S7, S8, S9, S10, S11, S12, S13, S14, S15, S16, S17, opv, opvs, eget, env0, setD, lenStr, lenSl, isNilP, isNilS, putAt, if_true, if_false, reduceCtorEq, Nat.reduceLeDiff, Nat.reduceEqDiff, Nat.reduceSub, Nat.reduceMul, Nat.reduceAdd])
      | ((with_reducible refine call_pure (spec_l1NameOk v hv _) ?_); simp -implicitDefEqProofs only [hh, cond_t, cond_f, S0, S1, S2, S3, S4, S5, S6, S7, S8, S9, S10, S11, S12, S13, S14, S15, S16, S17, opv, opvs, eget, env0, setD, lenStr, lenSl, isNilP, isNilS, putAt, if_true, if_false, reduceCtorEq, Nat.reduceLeDiff, Nat.reduceEqDiff, Nat.reduceSub, Nat.reduceMul, Nat.reduceAdd])
      | ((with_reducible refine call_pure (spec_l1Has f.Words y1 v _) ?_); simp -implicitDefEqProofs only [hh, cond_t, cond_f, S0, S1, S2, S3, S4, S5, S6, S7, S8, S9, S10, S11, S12, S13, S14, S15, S16, S17, opv, opvs, eget, env0, setD, lenStr, lenSl, isNilP, isNilS, putAt, if_true, if_false, reduceCtorEq, Nat.reduceLeDiff, Nat.reduceEqDiff, Nat.reduceSub, Nat.reduceMul, Nat.reduceAdd])
      | (first | ((with_reducible refine fin0 ?_); refine tb ?_; (try simp only [Known] at hh); rw [hr]; grind) | ((with_reducible refine fin ?_ ?_); rotate_left; exact rfl; refine tb ?_; (try simp only [Known] at hh); rw [hr]; grind)))
  · have hr : fitsG f v = (!(v == []) && fitT f v) := by simp [fitsG, h]
    simp -implicitDefEqProofs only [c_spec_GateFits, h, Int.reduceBEq, cond_t, cond_f, GateField.vs, S0, S1, S2, S3, S4, S5, S6, S7, S8, S9, S10, S11, S12, S13, S14, S15, S16, S17, opv, opvs, eget, env0, setD, lenStr, lenSl, isNilP, isNilS, putAt, if_true, if_false, reduceCtorEq, Nat.reduceLeDiff, Nat.reduceEqDiff, Nat.reduceSub, Nat.reduceMul, Nat.reduceAdd]
    refine loop_p [6, 1, 2] [1, 2] (fun k : Nat => [(6, .t (.int .i64 (k : Nat)))]) (fun k => k ≤ (v).length ∧ ((v).take k).all txtB = true) (fun k => (v).length - k) 0 (by simp) ⟨Nat.zero_le _, rfl⟩ rfl ?_
    rintro k ⟨hk, hall⟩
    simp -implicitDefEqProofs only [keep, List.length_map, S0, S1, S2, S3, S4, S5, S6, S7, S8, S9, S10, S11, S12, S13, S14, S15, S16, S17, opv, opvs, eget, env0, setD, lenStr, lenSl, isNilP, isNilS, putAt, if_true, if_false, reduceCtorEq, Nat.reduceLeDiff, Nat.reduceEqDiff, Nat.reduceSub, Nat.reduceMul, Nat.reduceAdd]
    refine cond_split (fun h1 => ?_) (fun h1 => ?_)
    · obtain ⟨x, hx, hlt⟩ := at_of h1
      clear h1 hh
      have hh : True := trivial
      have hb8 : IntKind.i64.wrap (x.toNat : Int) = (x.toNat : Int) := IntWalk.i64_in _ (by have := x.toNat_lt; omega)
      simp -implicitDefEqProofs only [hx, nat_nn, Nat.zero_le, List.getElem?_map, Option.map_some, hb8, i64_succ (show k < 4611686018427387904 by omega), S0, S1, S2, S3, S4, S5, S6, S7, S8, S9, S10, S11, S12, S13, S14, S15, S16, S17, opv, opvs, eget, env0, setD, lenStr, lenSl, isNilP, isNilS, putAt, if_true, if_false, reduceCtorEq, Nat.reduceLeDiff, Nat.reduceEqDiff, Nat.reduceSub, Nat.reduceMul, Nat.reduceAdd]
      repeat' (first
      | ((with_reducible refine cond_known (fun h => ?_) (fun h => ?_)) <;> (replace hh := And.intro h hh; clear h; simp -implicitDefEqProofs only [hh, cond_t, cond_f, hx, nat_nn, Nat.zero_le, List.getElem?_map, Option.map_some, hb8, i64_succ (show k < 4611686018427387904 by omega), S0, S1, S2, S3, S4, S5, S6, S7, S8, S9, S10, S11, S12, S13, S14, S15, S16, S17, opv, opvs, eget, env0, setD, lenStr, lenSl, isNilP, isNilS, putAt, if_true, if_false, reduceCtorEq, Nat.reduceLeDiff, Nat.reduceEqDiff, Nat.reduceSub, Nat.reduceMul, Nat.reduceAdd]))
      | ((with_reducible refine call_pure (spec_l1Number v hv _) ?_); simp -implicitDefEqProofs only [hh, cond_t, cond_f, hx, nat_nn, Nat.zero_le, List.getElem?_map, Option.map_some, hb8, i64_succ (show k < 4611686018427387904 by omega), S0, S1, S2, S3, S4, S5, S6, S7, S8, S9, S10, S11, S12, S13, S14, S15, S16, S17, opv, opvs, eget, env0, setD, lenStr, lenSl, isNilP, isNilS, putAt, if_true, if_false, reduceCtorEq, Nat.reduceLeDiff, Nat.reduceEqDiff, Nat.reduceSub, Nat.reduceMul, Nat.reduceAdd])
      | ((with_reducible refine call_pure (spec_l1In _ _ _ _) ?_); simp -implicitDefEqProofs only [hh, cond_t, cond_f, hx, nat_nn, Nat.zero_le, List.getElem?_map, Option.map_some, hb8, i64_succ (show k < 4611686018427387904 by omega), S0, S1, S2, S3, S4, S5, S6, S7, S8, S9, S10, S11, S12, S13, S14, S15, S16, S17, opv, opvs, eget, env0, setD, lenStr, lenSl, isNilP, isNilS, putAt, if_true, if_false, reduceCtorEq, Nat.reduceLeDiff, Nat.reduceEqDiff, Nat.reduceSub, Nat.reduceMul, Nat.reduceAdd])
      | ((with_reducible refine call_pure (spec_l1NameOk v hv _) ?_); simp -implicitDefEqProofs only [hh, cond_t, cond_f, hx, nat_nn, Nat.zero_le, List.getElem?_map, Option.map_some, hb8, i64_succ (show k < 4611686018427387904 by omega), S0, S1, S2, S3, S4, S5, S6, S7, S8, S9, S10, S11, S12, S13, S14, S15, S16, S17, opv, opvs, eget, env0, setD, lenStr, lenSl, isNilP, isNilS, putAt, if_true, if_false, reduceCtorEq, Nat.reduceLeDiff, Nat.reduceEqDiff, Nat.reduceSub, Nat.reduceMul, Nat.reduceAdd])
      | ((with_reducible refine call_pure (spec_l1Has f.Words y1 v _) ?_); simp -implicitDefEqProofs only [hh, cond_t, cond_f, hx, nat_nn, Nat.zero_le, List.getElem?_map, Option.map_some, hb8, i64_succ (show k < 4611686018427387904 by omega), S0, S1, S2, S3, S4, S5, S6, S7, S8, S9, S10, S11, S12, S13, S14, S15, S16, S17, opv, opvs, eget, env0, setD, lenStr, lenSl, isNilP, isNilS, putAt, if_true, if_false, reduceCtorEq, Nat.reduceLeDiff, Nat.reduceEqDiff, Nat.reduceSub, Nat.reduceMul, Nat.reduceAdd])
      | (first | ((with_reducible refine fin0 ?_); refine tb ?_; (try simp only [Known] at hh); have hno := all_not (l := (v)) (p := txtB) hx; rw [hr]; grind [fitT, txtB, wi]) | ((with_reducible refine fin ?_ ?_); rotate_left; exact rfl; refine tb ?_; (try simp only [Known] at hh); have hno := all_not (l := (v)) (p := txtB) hx; rw [hr]; grind [fitT, txtB, wi]) | (refine lk_p0 (k + 1) (by simp) (by simp) (by omega) ⟨by omega, all_step hx hall ?_⟩ rfl; (try simp only [Known] at hh); grind [txtB, wi]) | (refine lk_p (k + 1) (by simp) (by simp) hσ rfl (by omega) ⟨by omega, all_step hx hall ?_⟩ rfl rfl; (try simp only [Known] at hh); grind [txtB, wi]) | (refine lk_pm (k + 1) (Nat.le_refl _) (by simp) hσ rfl rfl (by omega) ⟨by omega, all_step hx hall ?_⟩ (by simp [ltE, keep, eget, V.lt]) rfl; (try simp only [Known] at hh); grind [txtB, wi])))
    replace hall := all_len hall ((end_of h1 hk).trans (by rfl))
    clear h1 hk
    simp -implicitDefEqProofs only [S0, S1, S2, S3, S4, S5, S6, S7, S8, S9, S10, S11, S12, S13, S14, S15, S16, S17, opv, opvs, eget, env0, setD, lenStr, lenSl, isNilP, isNilS, putAt, if_true, if_false, reduceCtorEq, Nat.reduceLeDiff, Nat.reduceEqDiff, Nat.reduceSub, Nat.reduceMul, Nat.reduceAdd]
    repeat' (first
      | ((with_reducible refine cond_known (fun h => ?_) (fun h => ?_)) <;> (replace hh := And.intro h hh; clear h; simp -implicitDefEqProofs only [hh, cond_t, cond_f, S0, S1, S2, S3, S4, S5, S6, S7, S8, S9, S10, S11, S12, S13, S14, S15, S16, S17, opv, opvs, eget, env0, setD, lenStr, lenSl, isNilP, isNilS, putAt, if_true, if_false, reduceCtorEq, Nat.reduceLeDiff, Nat.reduceEqDiff, Nat.reduceSub, Nat.reduceMul, Nat.reduceAdd]))
      | ((with_reducible refine call_pure (spec_l1Number v hv _) ?_); simp -implicitDefEqProofs only [hh, cond_t, cond_f, S0, S1, S2, S3, S4, S5, S6, S7, S8, S9, S10, S11, S12, S13, S14, S15, S16, S17, opv, opvs, eget, env0, setD, lenStr, lenSl, isNilP, isNilS, putAt, if_true, if_false, reduceCtorEq, Nat.reduceLeDiff, Nat.reduceEqDiff, Nat.reduceSub, Nat.reduceMul, Nat.reduceAdd])
      | ((with_reducible refine call_pure (spec_l1In _ _ _ _) ?_); simp -implicitDefEqProofs only [hh, cond_t, cond_f, S0, S1, S2, S3, S4, S5, S6, S7, S8, S9, S10, S11, S12, S13, S14, S15, S16, S17, opv, opvs, eget, env0, setD, lenStr, lenSl, isNilP, isNilS, putAt, if_true, if_false, reduceCtorEq, Nat.reduceLeDiff, Nat.reduceEqDiff, Nat.reduceSub, Nat.reduceMul, Nat.reduceAdd])
      | ((with_reducible refine call_pure (spec_l1NameOk v hv _) ?_); simp -implicitDefEqProofs only [hh, cond_t, cond_f, S0, S1, S2, S3, S4, S5, S6, S7, S8, S9, S10, S11, S12, S13, S14, S15, S16, S17, opv, opvs, eget, env0, setD, lenStr, lenSl, isNilP, isNilS, putAt, if_true, if_false, reduceCtorEq, Nat.reduceLeDiff, Nat.reduceEqDiff, Nat.reduceSub, Nat.reduceMul, Nat.reduceAdd])
      | ((with_reducible refine call_pure (spec_l1Has f.Words y1 v _) ?_); simp -implicitDefEqProofs only [hh, cond_t, cond_f, S0, S1, S2, S3, S4, S5, S6, S7, S8, S9, S10, S11, S12, S13, S14, S15, S16, S17, opv, opvs, eget, env0, setD, lenStr, lenSl, isNilP, isNilS, putAt, if_true, if_false, reduceCtorEq, Nat.reduceLeDiff, Nat.reduceEqDiff, Nat.reduceSub, Nat.reduceMul, Nat.reduceAdd])
      | (first | ((with_reducible refine fin0 ?_); refine tb ?_; (try simp only [Known] at hh); rw [hr]; grind [fitT, wi]) | ((with_reducible refine fin ?_ ?_); rotate_left; exact rfl; refine tb ?_; (try simp only [Known] at hh); rw [hr]; grind [fitT, wi])))
  · have hr : fitsG f v = nameOk v := by simp [fitsG, h]
    simp -implicitDefEqProofs only [c_spec_GateFits, h, Int.reduceBEq, cond_t, cond_f, GateField.vs, S0, S1, S2, S3, S4, S5, S6, S7, S8, S9, S10, S11, S12, S13, S14, S15, S16, S17, opv, opvs, eget, env0, setD, lenStr, lenSl, isNilP, isNilS, putAt, if_true, if_false, reduceCtorEq, Nat.reduceLeDiff, Nat.reduceEqDiff, Nat.reduceSub, Nat.reduceMul, Nat.reduceAdd]
    repeat' (first
      | ((with_reducible refine cond_known (fun h => ?_) (fun h => ?_)) <;> (replace hh := And.intro h hh; clear h; simp -implicitDefEqProofs only [hh, cond_t, cond_f, S0, S1, S2, S3, S4, S5, S6, S7, S8, S9, S10, S11, S12, S13, S14, S15, S16, S17, opv, opvs, eget, env0, setD, lenStr, lenSl, isNilP, isNilS, putAt, if_true, if_false, reduceCtorEq, Nat.reduceLeDiff, Nat.reduceEqDiff, Nat.reduceSub, Nat.reduceMul, Nat.reduceAdd]))
      | ((with_reducible refine call_pure (spec_l1Number v hv _) ?_); simp -implicitDefEqProofs only [hh, cond_t, cond_f, S0, S1, S2, S3, S4, S5, S6, S7, S8, S9, S10, S11, S12, S13, S14, S15, S16, S17, opv, opvs, eget, env0, setD, lenStr, lenSl, isNilP, isNilS, putAt, if_true, if_false, reduceCtorEq, Nat.reduceLeDiff, Nat.reduceEqDiff, Nat.reduceSub, Nat.reduceMul, Nat.reduceAdd])
      | ((with_reducible refine call_pure (spec_l1In _ _ _ _) ?_); simp -implicitDefEqProofs only [hh, cond_t, cond_f, S0, S1, S2, S3, S4, S5, S6, S7, S8, S9, S10, S11, S12, S13, S14, S15, S16, S17, opv, opvs, eget, env0, setD, lenStr, lenSl, isNilP, isNilS, putAt, if_true, if_false, reduceCtorEq, Nat.reduceLeDiff, Nat.reduceEqDiff, Nat.reduceSub, Nat.reduceMul, Nat.reduceAdd])
      | ((with_reducible refine call_pure (spec_l1NameOk v hv _) ?_); simp -implicitDefEqProofs only [hh, cond_t, cond_f, S0, S1, S2, S3, S4, S5, S6, S7, S8, S9, S10, S11, S12, S13, S14, S15, S16, S17, opv, opvs, eget, env0, setD, lenStr, lenSl, isNilP, isNilS, putAt, if_true, if_false, reduceCtorEq, Nat.reduceLeDiff, Nat.reduceEqDiff, Nat.reduceSub, Nat.reduceMul, Nat.reduceAdd])
      | ((with_reducible refine call_pure (spec_l1Has f.Words y1 v _) ?_); simp -implicitDefEqProofs only [hh, cond_t, cond_f, S0, S1, S2, S3, S4, S5, S6, S7, S8, S9, S10, S11, S12, S13, S14, S15, S16, S17, opv, opvs, eget, env0, setD, lenStr, lenSl, isNilP, isNilS, putAt, if_true, if_false, reduceCtorEq, Nat.reduceLeDiff, Nat.reduceEqDiff, Nat.reduceSub, Nat.reduceMul, Nat.reduceAdd])
      | (first | ((with_reducible refine fin0 ?_); refine tb ?_; (try simp only [Known] at hh); rw [hr]; try grind) | ((with_reducible refine fin ?_ ?_); rotate_left; exact rfl; refine tb ?_; (try simp only [Known] at hh); rw [hr]; try grind)))
  · have hr : fitsG f v = false := by simp only [beq_eq_false_iff_ne] at h1 h2 h3 h4; simp [fitsG, h1, h2, h3, h4]
    simp -implicitDefEqProofs only [c_spec_GateFits, h1, h2, h3, h4, Int.reduceBEq, cond_t, cond_f, GateField.vs, S0, S1, S2, S3, S4, S5, S6, S7, S8, S9, S10, S11, S12, S13, S14, S15, S16, S17, opv, opvs, eget, env0, setD, lenStr, lenSl, isNilP, isNilS, putAt, if_true, if_false, reduceCtorEq, Nat.reduceLeDiff, Nat.reduceEqDiff, Nat.reduceSub, Nat.reduceMul, Nat.reduceAdd]
    first | exact fin0 (tb hr.symm) | exact fin (tb hr.symm) rfl

end Go.Proofs.Ytcjchimenfadkaa.W
