/- What may end. Conditions: none. -/
import Derived.Test.YtabakekeicbpbaaStewCountE
import Derived.Test.YtabakekeicbpbaaAb4
set_option linter.unusedSimpArgs false
set_option linter.unusedVariables false
set_option linter.defProp false
open Go Go.Ab
set_option maxHeartbeats 2000000
namespace Go.Proofs.Ytabakekeicbpbaa.W
def namedC (n : List UInt8) (k : Int) (c : StewCopy) : Bool := c.Service == n && c.Number == k
def cpV : Option StewCopy → V
  | some s => .pv s.ts
  | none => .nilp
def c_spec_l12Copy : C := (.seq (.ops [⟨(some 3), none, (.box (.t 0))⟩, ⟨(some 6), none, (.mv (.c (.t (.int .i64 0))))⟩]) (.seq (.seq (.ops [⟨(some 7), none, (.mv (.c (.t (.int .i64 0))))⟩]) (.block 0 (.loop (.seq (.seq (.ops [⟨(some 8), none, (.mv (.t 7))⟩, ⟨(some 9), none, (.fieldAddr 2 (.t 3))⟩, ⟨(some 10), none, (.load none (.t 9))⟩, ⟨(some 11), none, (.len false (.t 10))⟩, ⟨(some 12), none, (.bin .lss (.t 8) (.t 11))⟩]) (.cond (.t 12) .skip (.exit 0))) (.seq (.block 1 (.seq (.ops [⟨(some 15), none, (.fieldAddr 2 (.t 3))⟩, ⟨(some 16), none, (.load none (.t 15))⟩, ⟨(some 17), none, (.mv (.t 7))⟩, ⟨(some 18), none, (.indexAddr 7 (.t 16) (.t 17))⟩, ⟨(some 19), none, (.fieldAddr 0 (.t 18))⟩, ⟨(some 20), none, (.load none (.t 19))⟩, ⟨(some 21), none, (.mv (.t 1))⟩, ⟨(some 22), none, (.bin .eql (.t 20) (.t 21))⟩, ⟨(some 23), none, (.mv (.t 22))⟩, ⟨(some 24), (some ⟨23, true⟩), (.fieldAddr 2 (.t 3))⟩, ⟨(some 25), (some ⟨23, true⟩), (.load none (.t 24))⟩, ⟨(some 26), (some ⟨23, true⟩), (.mv (.t 7))⟩, ⟨(some 27), (some ⟨23, true⟩), (.indexAddr 7 (.t 25) (.t 26))⟩, ⟨(some 28), (some ⟨23, true⟩), (.fieldAddr 1 (.t 27))⟩, ⟨(some 29), (some ⟨23, true⟩), (.load none (.t 28))⟩, ⟨(some 30), (some ⟨23, true⟩), (.mv (.t 2))⟩, ⟨(some 31), (some ⟨23, true⟩), (.bin .eql (.t 29) (.t 30))⟩, ⟨(some 32), none, (.pick (.t 23) (.t 31) (.c (.t (.bool false))))⟩]) (.cond (.t 32) (.seq (.ops [⟨(some 33), none, (.mv (.t 7))⟩, ⟨(some 6), none, (.mv (.t 33))⟩]) .ret) .skip))) (.ops [⟨(some 13), none, (.mv (.t 7))⟩, ⟨(some 14), none, (.bin .add (.t 13) (.c (.t (.int .i64 1))))⟩, ⟨(some 7), none, (.mv (.t 14))⟩])))))) (.seq (.ops [⟨(some 6), none, (.mv (.c (.t (.int .i64 (-1)))))⟩]) .ret)))
theorem k_spec_l12Copy : comp Try.prog 34 (Try.f86.body.getD .skip) = some c_spec_l12Copy := by kernel_rfl

theorem spec_l12Copy (b : StewBook) (hb : b.Ok) (name : List UInt8) (num : Int)  (σ : Store) : ACalls Try.prog 86 [.agg (b.vs), .t (.str (name)), .t (.int .i64 (num))] σ fun rr σ' => rr = .t (.int .i64 (findI (namedC name num) b.Copies 0)) ∧ σ' = σ := by
  refine acalls_of Try.func86 (by decide +kernel) (code := Try.f86.body.getD .skip) (n := 34) (c := c_spec_l12Copy) (rs := [(.tmp 6)]) rfl rfl k_spec_l12Copy (by kernel_rfl) (by simp) (fun hσ => ?_)
  have hh : True := trivial
  have fin : ∀ {u : V} {τ : Store}, u = .t (.int .i64 (findI (namedC name num) b.Copies 0)) → u.lt σ.length = true → retV σ.length (fun rr σ' => rr = .t (.int .i64 (findI (namedC name num) b.Copies 0)) ∧ σ' = σ) (σ ++ τ) (some [u]) := fun h h2 => ret_same rfl hσ h2 ⟨h, rfl⟩
  have fin0 : ∀ {u : V}, u = .t (.int .i64 (findI (namedC name num) b.Copies 0)) → retV σ.length (fun rr σ' => rr = .t (.int .i64 (findI (namedC name num) b.Copies 0)) ∧ σ' = σ) σ (some [u]) := fun h => ret_same0 rfl ⟨h, rfl⟩
  have y1 := hb.Copies.1
  simp -implicitDefEqProofs only [c_spec_l12Copy, StewBook.vs, List.length_map, S0, S1, S2, S3, S4, S5, S6, S7, S8, S9, S10, S11, S12, S13, S14, S15, S16, opv, opvs, eget, env0, setD, lenStr, lenSl, isNilP, isNilS, putAt, if_true, if_false, reduceCtorEq, Nat.reduceLeDiff, Nat.reduceEqDiff, Nat.reduceSub, Nat.reduceMul, Nat.reduceAdd]
  refine loop_p [7, 1, 2, 3] [1, 2, 3] (fun k : Nat => [(7, .t (.int .i64 (k : Nat)))]) (fun k => k ≤ b.Copies.length ∧ findI (namedC name num) (b.Copies.drop k) k = findI (namedC name num) b.Copies 0) (fun k => b.Copies.length - k) 0 (by simp) ⟨Nat.zero_le _, rfl⟩ rfl ?_
  rintro k ⟨hk, hall⟩
  simp -implicitDefEqProofs only [keep, List.length_map, S0, S1, S2, S3, S4, S5, S6, S7, S8, S9, S10, S11, S12, S13, S14, S15, S16, opv, opvs, eget, env0, setD, lenStr, lenSl, isNilP, isNilS, putAt, if_true, if_false, reduceCtorEq, Nat.reduceLeDiff, Nat.reduceEqDiff, Nat.reduceSub, Nat.reduceMul, Nat.reduceAdd]
  refine cond_split (fun h1 => ?_) (fun h1 => ?_)
  · obtain ⟨x, hx, hlt⟩ := at_of h1
    have hd := drop_of hx
    have more := i64_succ (show k < 4611686018427387904 by omega)
    rw [hd] at hall
    clear h1 hh
    have hh : True := trivial
    simp -implicitDefEqProofs only [hx, nat_nn, Nat.zero_le, List.getElem?_map, Option.map_some, List.length_map, StewCopy.ts, more, S0, S1, S2, S3, S4, S5, S6, S7, S8, S9, S10, S11, S12, S13, S14, S15, S16, opv, opvs, eget, env0, setD, lenStr, lenSl, isNilP, isNilS, putAt, if_true, if_false, reduceCtorEq, Nat.reduceLeDiff, Nat.reduceEqDiff, Nat.reduceSub, Nat.reduceMul, Nat.reduceAdd]
    repeat' (first
    | ((with_reducible refine cond_known (fun h => ?_) (fun h => ?_)) <;> (replace hh := And.intro h hh; clear h; simp -implicitDefEqProofs only [hh, cond_t, cond_f, hx, nat_nn, Nat.zero_le, List.getElem?_map, Option.map_some, List.length_map, StewCopy.ts, more, S0, S1, S2, S3, S4, S5, S6, S7, S8, S9, S10, S11, S12, S13, S14, S15, S16, opv, opvs, eget, env0, setD, lenStr, lenSl, isNilP, isNilS, putAt, if_true, if_false, reduceCtorEq, Nat.reduceLeDiff, Nat.reduceEqDiff, Nat.reduceSub, Nat.reduceMul, Nat.reduceAdd]))
    | (first | ((with_reducible refine fin0 ?_); refine ti ?_; (try simp only [Known] at hh); rw [findI, if_pos (by grind [namedC])] at hall; rw [← hall]) | ((with_reducible refine fin ?_ ?_); rotate_left; exact rfl; refine ti ?_; (try simp only [Known] at hh); rw [findI, if_pos (by grind [namedC])] at hall; rw [← hall]) | (refine lk_p0 (k + 1) (by simp) (by simp) (by omega) ⟨by omega, ?_⟩ rfl; (try simp only [Known] at hh); rw [findI, if_neg (by grind [namedC])] at hall; exact hall) | (refine lk_p (k + 1) (by simp) (by simp) hσ rfl (by omega) ⟨by omega, ?_⟩ rfl rfl; (try simp only [Known] at hh); rw [findI, if_neg (by grind [namedC])] at hall; exact hall) | (refine lk_pm (k + 1) (Nat.le_refl _) (by simp) hσ rfl rfl (by omega) ⟨by omega, ?_⟩ (by simp [ltE, keep, eget, V.lt]) rfl; (try simp only [Known] at hh); rw [findI, if_neg (by grind [namedC])] at hall; exact hall)))
  · have hkk := end_of h1 hk
    rw [hkk, List.drop_length] at hall
    simp -implicitDefEqProofs only [S0, S1, S2, S3, S4, S5, S6, S7, S8, S9, S10, S11, S12, S13, S14, S15, S16, opv, opvs, eget, env0, setD, lenStr, lenSl, isNilP, isNilS, putAt, if_true, if_false, reduceCtorEq, Nat.reduceLeDiff, Nat.reduceEqDiff, Nat.reduceSub, Nat.reduceMul, Nat.reduceAdd]
    first | exact fin0 (by rw [← hall]; try rfl) | exact fin (by rw [← hall]; try rfl) rfl

def c___impl_StewBook__copy : C := (.seq (.ops [⟨(some 6), none, (.mv (.c .nilp))⟩]) (.seq (.seq (.ops [⟨(some 8), none, (.mv (.t 0))⟩, ⟨(some 9), none, (.nilCheck (.t 8))⟩, ⟨(some 10), none, (.fieldAddr 2 (.t 9))⟩, ⟨(some 11), none, (.load none (.t 10))⟩, ⟨(some 12), none, (.len false (.t 11))⟩, ⟨(some 13), none, (.mv (.c (.t (.int .i64 0))))⟩]) (.block 0 (.loop (.seq (.ops [⟨(some 14), none, (.bin .lss (.t 13) (.t 12))⟩]) (.seq (.cond (.t 14) .skip (.exit 0)) (.seq (.block 1 (.seq (.ops [⟨(some 15), none, (.mv (.t 13))⟩, ⟨(some 7), none, (.mv (.t 15))⟩]) (.seq (.ops [⟨(some 16), none, (.mv (.t 0))⟩, ⟨(some 17), none, (.nilCheck (.t 16))⟩, ⟨(some 18), none, (.fieldAddr 2 (.t 17))⟩, ⟨(some 19), none, (.load none (.t 18))⟩, ⟨(some 20), none, (.mv (.t 7))⟩, ⟨(some 21), none, (.indexAddr 7 (.t 19) (.t 20))⟩, ⟨(some 22), none, (.fieldAddr 0 (.t 21))⟩, ⟨(some 23), none, (.load none (.t 22))⟩, ⟨(some 24), none, (.mv (.t 1))⟩, ⟨(some 25), none, (.bin .eql (.t 23) (.t 24))⟩, ⟨(some 26), none, (.mv (.t 25))⟩, ⟨(some 27), (some ⟨26, true⟩), (.mv (.t 0))⟩, ⟨(some 28), (some ⟨26, true⟩), (.nilCheck (.t 27))⟩, ⟨(some 29), (some ⟨26, true⟩), (.fieldAddr 2 (.t 28))⟩, ⟨(some 30), (some ⟨26, true⟩), (.load none (.t 29))⟩, ⟨(some 31), (some ⟨26, true⟩), (.mv (.t 7))⟩, ⟨(some 32), (some ⟨26, true⟩), (.indexAddr 7 (.t 30) (.t 31))⟩, ⟨(some 33), (some ⟨26, true⟩), (.fieldAddr 1 (.t 32))⟩, ⟨(some 34), (some ⟨26, true⟩), (.load none (.t 33))⟩, ⟨(some 35), (some ⟨26, true⟩), (.mv (.t 2))⟩, ⟨(some 36), (some ⟨26, true⟩), (.bin .eql (.t 34) (.t 35))⟩, ⟨(some 37), none, (.pick (.t 26) (.t 36) (.c (.t (.bool false))))⟩]) (.cond (.t 37) (.seq (.ops [⟨(some 38), none, (.mv (.t 0))⟩, ⟨(some 39), none, (.nilCheck (.t 38))⟩, ⟨(some 40), none, (.fieldAddr 2 (.t 39))⟩, ⟨(some 41), none, (.load none (.t 40))⟩, ⟨(some 42), none, (.mv (.t 7))⟩, ⟨(some 43), none, (.indexAddr 7 (.t 41) (.t 42))⟩, ⟨(some 6), none, (.mv (.t 43))⟩]) .ret) .skip)))) (.ops [⟨(some 44), none, (.bin .add (.t 13) (.c (.t (.int .i64 1))))⟩, ⟨(some 13), none, (.mv (.t 44))⟩]))))))) (.seq (.ops [⟨(some 6), none, (.mv (.c .nilp))⟩]) .ret)))
theorem k___impl_StewBook__copy : comp Try.prog 45 (Try.f60.body.getD .skip) = some c___impl_StewBook__copy := by kernel_rfl

theorem impl_copy (b : StewBook) (hb : b.Ok) (name : List UInt8) (num : Int) (id : Nat) (σ : Store) (hid : σ[id]? = some (.box b.vs)) : ACalls Try.prog 60 [.ptr id 0, .t (.str (name)), .t (.int .i64 (num))] σ fun rr σ' => rr = cpV (b.Copies.find? (namedC name num)) ∧ σ' = σ := by
  refine acalls_of Try.func60 (by decide +kernel) (code := Try.f60.body.getD .skip) (n := 45) (c := c___impl_StewBook__copy) (rs := [(.tmp 6)]) rfl rfl k___impl_StewBook__copy (by kernel_rfl) (by simp) (fun hσ => ?_)
  have hh : True := trivial
  have fin : ∀ {u : V} {τ : Store}, u = cpV (b.Copies.find? (namedC name num)) → u.lt σ.length = true → retV σ.length (fun rr σ' => rr = cpV (b.Copies.find? (namedC name num)) ∧ σ' = σ) (σ ++ τ) (some [u]) := fun h h2 => ret_same rfl hσ h2 ⟨h, rfl⟩
  have fin0 : ∀ {u : V}, u = cpV (b.Copies.find? (namedC name num)) → retV σ.length (fun rr σ' => rr = cpV (b.Copies.find? (namedC name num)) ∧ σ' = σ) σ (some [u]) := fun h => ret_same0 rfl ⟨h, rfl⟩
  rw [StewBook.vs] at hid
  have hidA : ∀ τ : Store, (σ ++ τ)[id]? = some _ := fun τ => (Kp.app σ τ).box hid
  have hidl : id < σ.length := (List.getElem?_eq_some_iff.1 hid).1
  have y1 := hb.Copies.1
  simp -implicitDefEqProofs only [c___impl_StewBook__copy, hid, hidA, List.length_map, S0, S1, S2, S3, S4, S5, S6, S7, S8, S9, S10, S11, S12, S13, S14, S15, S16, opv, opvs, eget, env0, setD, lenStr, lenSl, isNilP, isNilS, putAt, if_true, if_false, reduceCtorEq, Nat.reduceLeDiff, Nat.reduceEqDiff, Nat.reduceSub, Nat.reduceMul, Nat.reduceAdd]
  refine loop_p [13, 0, 1, 2, 12] [0, 1, 2, 12] (fun k : Nat => [(13, .t (.int .i64 (k : Nat)))]) (fun k => k ≤ b.Copies.length ∧ (b.Copies.drop k).find? (namedC name num) = b.Copies.find? (namedC name num)) (fun k => b.Copies.length - k) 0 (by simp) ⟨Nat.zero_le _, rfl⟩ rfl ?_
  rintro k ⟨hk, hall⟩
  simp -implicitDefEqProofs only [hid, hidA, keep, List.length_map, S0, S1, S2, S3, S4, S5, S6, S7, S8, S9, S10, S11, S12, S13, S14, S15, S16, opv, opvs, eget, env0, setD, lenStr, lenSl, isNilP, isNilS, putAt, if_true, if_false, reduceCtorEq, Nat.reduceLeDiff, Nat.reduceEqDiff, Nat.reduceSub, Nat.reduceMul, Nat.reduceAdd]
  refine cond_split (fun h1 => ?_) (fun h1 => ?_)
  · obtain ⟨x, hx, hlt⟩ := at_of h1
    have hd := drop_of hx
    have more := i64_succ (show k < 4611686018427387904 by omega)
    rw [hd] at hall
    clear h1 hh
    have hh : True := trivial
    simp -implicitDefEqProofs only [hid, hidA, hx, nat_nn, Nat.zero_le, List.getElem?_map, Option.map_some, List.length_map, StewCopy.ts, more, S0, S1, S2, S3, S4, S5, S6, S7, S8, S9, S10, S11, S12, S13, S14, S15, S16, opv, opvs, eget, env0, setD, lenStr, lenSl, isNilP, isNilS, putAt, if_true, if_false, reduceCtorEq, Nat.reduceLeDiff, Nat.reduceEqDiff, Nat.reduceSub, Nat.reduceMul, Nat.reduceAdd]
    repeat' (first
    | ((with_reducible refine cond_known (fun h => ?_) (fun h => ?_)) <;> (replace hh := And.intro h hh; clear h; simp -implicitDefEqProofs only [hh, cond_t, cond_f, hid, hidA, hx, nat_nn, Nat.zero_le, List.getElem?_map, Option.map_some, List.length_map, StewCopy.ts, more, S0, S1, S2, S3, S4, S5, S6, S7, S8, S9, S10, S11, S12, S13, S14, S15, S16, opv, opvs, eget, env0, setD, lenStr, lenSl, isNilP, isNilS, putAt, if_true, if_false, reduceCtorEq, Nat.reduceLeDiff, Nat.reduceEqDiff, Nat.reduceSub, Nat.reduceMul, Nat.reduceAdd]))
    | (first | ((with_reducible refine fin0 ?_); (try simp only [Known] at hh); rw [List.find?_cons_of_pos (by grind [namedC])] at hall; rw [← hall]; rfl) | ((with_reducible refine fin ?_ ?_); rotate_left; exact rfl; (try simp only [Known] at hh); rw [List.find?_cons_of_pos (by grind [namedC])] at hall; rw [← hall]; rfl) | (refine lk_p0 (k + 1) (by simp) (by simp) (by omega) ⟨by omega, ?_⟩ rfl; (try simp only [Known] at hh); rw [List.find?_cons_of_neg (by grind [namedC])] at hall; exact hall) | (refine lk_p (k + 1) (by simp) (by simp) hσ rfl (by omega) ⟨by omega, ?_⟩ rfl rfl; (try simp only [Known] at hh); rw [List.find?_cons_of_neg (by grind [namedC])] at hall; exact hall) | (refine lk_pm (k + 1) (Nat.le_refl _) (by simp) hσ rfl rfl (by omega) ⟨by omega, ?_⟩ (by simp [ltE, keep, eget, V.lt]) rfl; (try simp only [Known] at hh); rw [List.find?_cons_of_neg (by grind [namedC])] at hall; exact hall)))
  · have hkk := end_of h1 hk
    rw [hkk, List.drop_length] at hall
    simp -implicitDefEqProofs only [S0, S1, S2, S3, S4, S5, S6, S7, S8, S9, S10, S11, S12, S13, S14, S15, S16, opv, opvs, eget, env0, setD, lenStr, lenSl, isNilP, isNilS, putAt, if_true, if_false, reduceCtorEq, Nat.reduceLeDiff, Nat.reduceEqDiff, Nat.reduceSub, Nat.reduceMul, Nat.reduceAdd]
    first | exact fin0 (by rw [← hall]; try rfl) | exact fin (by rw [← hall]; try rfl) rfl

def mayS (b : StewBook) (s : StewService) (c : StewCopy) : Bool := !(c.State == 3) || s.Gone || decide (IntKind.i64.wrap (cntI (cReady s.Name) b.Copies - 1) ≥ IntKind.i64.wrap (s.Want - s.Down))
def mayE (b : StewBook) (name : List UInt8) (num : Int) : Bool := match b.Copies.find? (namedC name num), b.Services.find? (namedS name) with
  | some c, some s => !c.Ending && mayS b s c
  | _, _ => false
theorem valid_copy {b : StewBook} (hv : stewValid b = true) {c : StewCopy} (hc : c ∈ b.Copies) : ∃ s, b.Services.find? (namedS c.Service) = some s := by
  obtain ⟨i, hi⟩ := List.getElem?_of_mem hc
  unfold stewValid at hv
  simp only [Bool.and_eq_true] at hv
  have h1 := List.all_eq_true.1 hv.2 (c, i) (by rw [List.mem_zipIdx_iff_getElem?]; simpa using hi)
  simp only [copyP, Bool.and_eq_true] at h1
  have h2 := h1.1
  rcases hfs : b.Services.find? (namedS c.Service) with _ | s
  · simp [copyOk, hfs] at h2
  · exact ⟨s, rfl⟩
theorem named_svc {b : StewBook} {name : List UInt8} {s : StewService} (h : b.Services.find? (namedS name) = some s) : s.Name = name := by
  have := List.find?_some h
  simpa [namedS] using this
theorem may_find {b : StewBook} (hv : stewValid b = true) {name : List UInt8} {num : Int} {c : StewCopy} (h : b.Copies.find? (namedC name num) = some c) : ∃ s, b.Services.find? (namedS name) = some s := by
  have h1 := List.mem_of_find?_eq_some h
  have h2 := List.find?_some h
  simp only [namedC, Bool.and_eq_true, beq_iff_eq] at h2
  obtain ⟨s, hs⟩ := valid_copy hv h1
  rw [h2.1] at hs
  exact ⟨s, hs⟩

def c_spec_l14MayEnd : C := (.seq (.ops [⟨(some 3), none, (.box (.t 0))⟩, ⟨(some 6), none, (.mv (.c (.t (.bool false))))⟩]) (.seq (.ops [⟨(some 9), none, (.load (some 4) (.t 3))⟩, ⟨(some 10), none, (.mv (.t 1))⟩, ⟨(some 11), none, (.mv (.t 2))⟩, ⟨(some 12), none, (.call (.c (.fn (.func 86) [])) [(.t 9), (.t 10), (.t 11)])⟩, ⟨(some 7), none, (.mv (.t 12))⟩]) (.seq (.seq (.ops [⟨(some 13), none, (.mv (.t 7))⟩, ⟨(some 14), none, (.bin .lss (.t 13) (.c (.t (.int .i64 0))))⟩, ⟨(some 15), none, (.mv (.t 14))⟩, ⟨(some 16), (some ⟨15, false⟩), (.fieldAddr 2 (.t 3))⟩, ⟨(some 17), (some ⟨15, false⟩), (.load none (.t 16))⟩, ⟨(some 18), (some ⟨15, false⟩), (.mv (.t 7))⟩, ⟨(some 19), (some ⟨15, false⟩), (.indexAddr 7 (.t 17) (.t 18))⟩, ⟨(some 20), (some ⟨15, false⟩), (.fieldAddr 5 (.t 19))⟩, ⟨(some 21), (some ⟨15, false⟩), (.load none (.t 20))⟩, ⟨(some 22), none, (.pick (.t 15) (.c (.t (.bool true))) (.t 21))⟩]) (.cond (.t 22) (.seq (.ops [⟨(some 6), none, (.mv (.c (.t (.bool false))))⟩]) .ret) .skip)) (.seq (.drawn [(.mk 0 false ⟨(some 23), none, (.fieldAddr 1 (.t 3))⟩), (.mk 1 false ⟨(some 24), none, (.load none (.t 23))⟩), (.mk 2 false ⟨(some 25), none, (.load (some 4) (.t 3))⟩), (.mk 3 false ⟨(some 26), none, (.mv (.t 1))⟩), (.mk 4 false ⟨(some 27), none, (.callQ (.c (.fn (.func 78) [])) [(.t 25), (.t 26)])⟩), (.mk 5 false ⟨(some 28), none, (.indexAddr 13 (.t 24) (.t 27))⟩), (.mk 6 false ⟨(some 29), none, (.load (some 13) (.t 28))⟩), (.mk 7 true ⟨(some 8), none, (.new [(.t (.str [])), (.t (.int .i64 0)), (.t (.bool false)), (.t (.int .i64 0)), (.t (.int .i64 0)), (.t (.int .i64 0)), (.t (.int .i64 0)), (.t (.int .i64 0)), (.t (.int .i64 0)), (.t (.int .i64 0)), (.t (.int .i64 0)), (.t (.int .i64 0)), (.t (.int .i64 0))])⟩), (.mk 8 false ⟨none, none, (.store 13 (.t 8) (.t 29))⟩)]) (.seq (.seq (.ops [⟨(some 30), none, (.fieldAddr 2 (.t 3))⟩, ⟨(some 31), none, (.load none (.t 30))⟩, ⟨(some 32), none, (.mv (.t 7))⟩, ⟨(some 33), none, (.indexAddr 7 (.t 31) (.t 32))⟩, ⟨(some 34), none, (.fieldAddr 4 (.t 33))⟩, ⟨(some 35), none, (.load none (.t 34))⟩, ⟨(some 36), none, (.bin .neq (.t 35) (.c (.t (.int .i64 3))))⟩, ⟨(some 37), none, (.mv (.t 36))⟩, ⟨(some 38), (some ⟨37, false⟩), (.fieldAddr 2 (.t 8))⟩, ⟨(some 39), (some ⟨37, false⟩), (.load none (.t 38))⟩, ⟨(some 40), none, (.pick (.t 37) (.c (.t (.bool true))) (.t 39))⟩]) (.cond (.t 40) (.seq (.ops [⟨(some 6), none, (.mv (.c (.t (.bool true))))⟩]) .ret) .skip)) (.seq (.drawn [(.mk 0 false ⟨(some 41), none, (.load (some 4) (.t 3))⟩), (.mk 1 false ⟨(some 42), none, (.mv (.t 1))⟩), (.mk 5 false ⟨(some 46), none, (.fieldAddr 4 (.t 8))⟩), (.mk 6 false ⟨(some 47), none, (.load none (.t 46))⟩), (.mk 7 false ⟨(some 48), none, (.fieldAddr 5 (.t 8))⟩), (.mk 8 false ⟨(some 49), none, (.load none (.t 48))⟩), (.mk 9 false ⟨(some 50), none, (.bin .sub (.t 47) (.t 49))⟩), (.mk 2 true ⟨(some 43), none, (.call (.c (.fn (.func 57) [])) [(.t 41), (.t 42)])⟩), (.mk 3 false ⟨(some 44), none, (.field 1 none (.t 43))⟩), (.mk 4 false ⟨(some 45), none, (.bin .sub (.t 44) (.c (.t (.int .i64 1))))⟩), (.mk 10 false ⟨(some 51), none, (.bin .geq (.t 45) (.t 50))⟩), (.mk 11 false ⟨(some 6), none, (.mv (.t 51))⟩)]) .ret))))))
theorem k_spec_l14MayEnd : comp Try.prog 52 (Try.f59.body.getD .skip) = some c_spec_l14MayEnd := by kernel_rfl

theorem spec_l14MayEnd (b : StewBook) (hb : b.Ok) (hv : stewValid b = true) (name : List UInt8) (num : Int)  (σ : Store) : ACalls Try.prog 59 [.agg (b.vs), .t (.str (name)), .t (.int .i64 (num))] σ fun rr σ' => rr = .t (.bool (mayE b name num)) ∧ σ' = σ := by
  refine acalls_of Try.func59 (by decide +kernel) (code := Try.f59.body.getD .skip) (n := 52) (c := c_spec_l14MayEnd) (rs := [(.tmp 6)]) rfl rfl k_spec_l14MayEnd (by kernel_rfl) (by simp) (fun hσ => ?_)
  have hh : True := trivial
  have fin : ∀ {u : V} {τ : Store}, u = .t (.bool (mayE b name num)) → u.lt σ.length = true → retV σ.length (fun rr σ' => rr = .t (.bool (mayE b name num)) ∧ σ' = σ) (σ ++ τ) (some [u]) := fun h h2 => ret_same rfl hσ h2 ⟨h, rfl⟩
  have fin0 : ∀ {u : V}, u = .t (.bool (mayE b name num)) → retV σ.length (fun rr σ' => rr = .t (.bool (mayE b name num)) ∧ σ' = σ) σ (some [u]) := fun h => ret_same0 rfl ⟨h, rfl⟩
  simp -implicitDefEqProofs only [c_spec_l14MayEnd, StewBook.vs, List.length_map, S0, S1, S2, S3, S4, S5, S6, S7, S8, S9, S10, S11, S12, S13, S14, S15, S16, opv, opvs, eget, env0, setD, lenStr, lenSl, isNilP, isNilS, putAt, if_true, if_false, reduceCtorEq, Nat.reduceLeDiff, Nat.reduceEqDiff, Nat.reduceSub, Nat.reduceMul, Nat.reduceAdd]
  refine call_pure (spec_l12Copy b hb name num _) ?_
  rcases find_i (namedC name num) b.Copies 0 with ⟨g1, g2⟩ | ⟨i, c, g1, g2, g3⟩
  · have hco : mayE b name num = false := by simp only [mayE, g2]
    have d1 : decide ((-1 : Int) < 0) = true := by decide
    rw [g1]
    simp -implicitDefEqProofs only [d1, cond_t, cond_f, S0, S1, S2, S3, S4, S5, S6, S7, S8, S9, S10, S11, S12, S13, S14, S15, S16, opv, opvs, eget, env0, setD, lenStr, lenSl, isNilP, isNilS, putAt, if_true, if_false, reduceCtorEq, Nat.reduceLeDiff, Nat.reduceEqDiff, Nat.reduceSub, Nat.reduceMul, Nat.reduceAdd]
    first | exact fin0 (by rw [hco]) | exact fin (by rw [hco]) rfl
  rw [g2, Nat.zero_add]
  have d1 : decide (((i : Nat) : Int) < 0) = false := by simp
  simp -implicitDefEqProofs only [d1, cond_t, cond_f, g1, nat_nn, Nat.zero_le, List.getElem?_map, Option.map_some, List.length_map, StewCopy.ts, StewService.ts, S0, S1, S2, S3, S4, S5, S6, S7, S8, S9, S10, S11, S12, S13, S14, S15, S16, opv, opvs, eget, env0, setD, lenStr, lenSl, isNilP, isNilS, putAt, if_true, if_false, reduceCtorEq, Nat.reduceLeDiff, Nat.reduceEqDiff, Nat.reduceSub, Nat.reduceMul, Nat.reduceAdd]
  obtain ⟨s, hs⟩ := may_find hv g3
  have hn := named_svc hs
  have hco : mayE b name num = (!c.Ending && mayS b s c) := by simp only [mayE, g3, hs]
  rw [mayS, hn] at hco
  have hcn : cntO b name = cntV name s.Image b.Copies := by simp only [cntO, hs]
  refine cond_split (fun h => ?_) (fun h => ?_)
  · simp -implicitDefEqProofs only [cond_t, cond_f, h, S0, S1, S2, S3, S4, S5, S6, S7, S8, S9, S10, S11, S12, S13, S14, S15, S16, opv, opvs, eget, env0, setD, lenStr, lenSl, isNilP, isNilS, putAt, if_true, if_false, reduceCtorEq, Nat.reduceLeDiff, Nat.reduceEqDiff, Nat.reduceSub, Nat.reduceMul, Nat.reduceAdd]
    first | exact fin0 (by rw [hco, h]; rfl) | exact fin (by rw [hco, h]; rfl) rfl
  have f1 : ∀ τ : Store, ACalls Try.prog 78 [.agg b.vs, .t (.str name)] τ fun rr σ' => rr = .t (.int .i64 (findI (namedS name) b.Services 0)) ∧ σ' = τ := fun τ => spec_l12Service b hb name τ
  rcases find_i (namedS name) b.Services 0 with ⟨k1, k2⟩ | ⟨j, s', k1, k2, k3⟩
  · rw [hs] at k2; cases k2
  rw [hs] at k3
  obtain rfl := Option.some.inj k3
  rw [k2, Nat.zero_add] at f1
  simp -implicitDefEqProofs only [cond_t, cond_f, g1, nat_nn, Nat.zero_le, List.getElem?_map, Option.map_some, List.length_map, StewCopy.ts, StewService.ts, S0, S1, S2, S3, S4, S5, S6, S7, S8, S9, S10, S11, S12, S13, S14, S15, S16, opv, opvs, eget, env0, setD, lenStr, lenSl, isNilP, isNilS, putAt, if_true, if_false, reduceCtorEq, Nat.reduceLeDiff, Nat.reduceEqDiff, Nat.reduceSub, Nat.reduceMul, Nat.reduceAdd]
  refine call_pureQ (fun τ => f1 _) ?_
  have f2 : ∀ τ : Store, ACalls Try.prog 57 [.agg b.vs, .t (.str name)] τ fun rr σ' => rr = .agg (cntV name s.Image b.Copies) ∧ σ' = τ := fun τ => by rw [← hcn]; exact spec_l13Count b hb name τ
  simp -implicitDefEqProofs only [cond_t, cond_f, k1, g1, h, nat_nn, Nat.zero_le, List.getElem?_map, Option.map_some, List.length_map, StewCopy.ts, StewService.ts, S0, S1, S2, S3, S4, S5, S6, S7, S8, S9, S10, S11, S12, S13, S14, S15, S16, opv, opvs, eget, env0, setD, lenStr, lenSl, isNilP, isNilS, putAt, if_true, if_false, reduceCtorEq, Nat.reduceLeDiff, Nat.reduceEqDiff, Nat.reduceSub, Nat.reduceMul, Nat.reduceAdd]
  have hh : Known c.Ending false := h
  repeat' (first
    | ((with_reducible refine cond_known (fun h => ?_) (fun h => ?_)) <;> (replace hh := And.intro h hh; clear h; simp -implicitDefEqProofs only [hh, cond_t, cond_f, k1, g1, nat_nn, Nat.zero_le, List.getElem?_map, Option.map_some, List.length_map, StewCopy.ts, StewService.ts, cntV, S0, S1, S2, S3, S4, S5, S6, S7, S8, S9, S10, S11, S12, S13, S14, S15, S16, opv, opvs, eget, env0, setD, lenStr, lenSl, isNilP, isNilS, putAt, if_true, if_false, reduceCtorEq, Nat.reduceLeDiff, Nat.reduceEqDiff, Nat.reduceSub, Nat.reduceMul, Nat.reduceAdd]))
    | ((with_reducible refine call_pure (f2 _) ?_); simp -implicitDefEqProofs only [hh, cond_t, cond_f, k1, g1, nat_nn, Nat.zero_le, List.getElem?_map, Option.map_some, List.length_map, StewCopy.ts, StewService.ts, cntV, S0, S1, S2, S3, S4, S5, S6, S7, S8, S9, S10, S11, S12, S13, S14, S15, S16, opv, opvs, eget, env0, setD, lenStr, lenSl, isNilP, isNilS, putAt, if_true, if_false, reduceCtorEq, Nat.reduceLeDiff, Nat.reduceEqDiff, Nat.reduceSub, Nat.reduceMul, Nat.reduceAdd])
    | (first | ((with_reducible refine fin0 ?_); refine tb ?_; (try simp only [Known] at hh); rw [hco]; grind) | ((with_reducible refine fin ?_ ?_); rotate_left; exact rfl; refine tb ?_; (try simp only [Known] at hh); rw [hco]; grind)))

end Go.Proofs.Ytabakekeicbpbaa.W
