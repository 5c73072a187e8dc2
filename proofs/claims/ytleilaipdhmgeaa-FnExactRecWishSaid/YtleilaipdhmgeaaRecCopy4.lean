/- Copies that the reference and the program make. Conditions: none. -/
/- The program's copies of messages. Conditions: none. -/
/- The program's copy of a recorder. Conditions: none. -/
import Derived.Test.YtleilaipdhmgeaaRecValid
import Derived.Test.YtleilaipdhmgeaaRecSlots
import Derived.KernelRfl
import Derived.Test.YtleilaipdhmgeaaAb4
set_option linter.unusedSimpArgs false
set_option linter.unusedVariables false
set_option linter.defProp false

section
open Go Go.Ab
set_option maxHeartbeats 2000000
namespace Go.Proofs.Ytleilaipdhmgeaa.W
def c_spec_l21Disk : C := (.seq (.ops [⟨(some 1), none, (.box (.t 0))⟩, ⟨(some 2), none, (.new [(.t (.int .i64 0)), (.t (.int .i64 0)), .nils])⟩]) (.seq (.ops [⟨(some 3), none, (.fieldAddr 2 (.t 1))⟩, ⟨(some 4), none, (.load none (.t 3))⟩, ⟨(some 5), none, (.call (.c (.fn (.func 82) [])) [(.t 4)])⟩, ⟨(some 6), none, (.fieldAddr 2 (.t 1))⟩, ⟨none, none, (.store 1 (.t 6) (.t 5))⟩]) (.seq (.ops [⟨(some 7), none, (.load (some 3) (.t 1))⟩, ⟨none, none, (.store 3 (.t 2) (.t 7))⟩]) .ret)))
theorem k_spec_l21Disk : comp Try.prog 8 (Try.f126.body.getD .skip) = some c_spec_l21Disk := by kernel_rfl

def c_impl_cloneDisk : C := (.seq (.ops [⟨(some 1), none, (.box (.t 0))⟩, ⟨(some 2), none, (.new [(.t (.int .i64 0)), (.t (.int .i64 0)), .nils])⟩]) (.seq (.ops [⟨(some 3), none, (.fieldAddr 2 (.t 1))⟩, ⟨(some 4), none, (.load none (.t 3))⟩, ⟨(some 5), none, (.call (.c (.fn (.func 155) [])) [(.t 4)])⟩, ⟨(some 6), none, (.fieldAddr 2 (.t 1))⟩, ⟨none, none, (.store 1 (.t 6) (.t 5))⟩]) (.seq (.ops [⟨(some 7), none, (.load (some 3) (.t 1))⟩, ⟨none, none, (.store 3 (.t 2) (.t 7))⟩]) .ret)))
theorem k_impl_cloneDisk : comp Try.prog 8 (Try.f153.body.getD .skip) = some c_impl_cloneDisk := by kernel_rfl

theorem spec_l21Slots (l : List RecSlot) (hl : l.length ≤ 1048576) (σ : Store) : ACalls Try.prog 82 [.t (tRecSlotS l)] σ (ToR (tRecSlotS l) σ) :=
  (spec_l21Slots' l hl σ).mono fun r σ' h => h.toR (by omega) (slot_flat l)
theorem impl_cloneSlots (l : List RecSlot) (hl : l.length ≤ 1048576) (σ : Store) : ACalls Try.prog 155 [.t (tRecSlotS l)] σ (ToR (tRecSlotS l) σ) :=
  (impl_cloneSlots' l hl σ).mono fun r σ' h => h.toR (by omega) (slot_flat l)
theorem spec_l21Disk (d : RecDisk) (hd : d.Ok) (σ : Store) : ACalls Try.prog 126 [.agg d.vs] σ (ToLR d.ts σ) := by
  refine acalls_of Try.func126 (by decide +kernel) (code := Try.f126.body.getD .skip) (n := 8) (c := c_spec_l21Disk) (rs := [(.cell 2 (some 3))]) rfl rfl k_spec_l21Disk (by kernel_rfl) (by simp) (fun hσ => ?_)
  simp -implicitDefEqProofs only [c_spec_l21Disk, RecDisk.vs, S0, S1, S2, S3, S4, S5, S6, S7, S8, S9, S10, S11, S12, S13, S14, S15, opv, opvs, eget, env0, setD, lenStr, lenSl, isNilP, isNilS, putAt, if_true, if_false, reduceCtorEq, Nat.reduceLeDiff, Nat.reduceEqDiff, Nat.reduceSub, Nat.reduceMul, Nat.reduceAdd]
  refine call_by (by rw [List.append_nil]; exact spec_l21Slots d.Slots hd.Slots.1 _) ?_
  rintro u σ' ⟨τ, is, rfl, ho, hw⟩
  have e := ho.one
  simp -implicitDefEqProofs only [one_cells e, e, S0, S1, S2, S3, S4, S5, S6, S7, S8, S9, S10, S11, S12, S13, S14, S15, opv, opvs, eget, env0, setD, lenStr, lenSl, isNilP, isNilS, putAt, if_true, if_false, reduceCtorEq, Nat.reduceLeDiff, Nat.reduceEqDiff, Nat.reduceSub, Nat.reduceMul, Nat.reduceAdd]
  refine fin_keep (by simp) ⟨_, _, is ++ [], rfl, rfl, .int (.int (.lst (own_pre (A := [_, _]) (A' := [_, _]) (B := τ) (B' := τ) ho hw (List.append_assoc ..) rfl rfl (by simp) (by simp)) .nil0)), ?_⟩
  simp only [List.length_append, List.length_cons, List.length_nil] at hw ⊢
  exact wi_last hw (by omega) (by omega)
theorem impl_cloneDisk (d : RecDisk) (hd : d.Ok) (σ : Store) : ACalls Try.prog 153 [.agg d.vs] σ (ToLR d.ts σ) := by
  refine acalls_of Try.func153 (by decide +kernel) (code := Try.f153.body.getD .skip) (n := 8) (c := c_impl_cloneDisk) (rs := [(.cell 2 (some 3))]) rfl rfl k_impl_cloneDisk (by kernel_rfl) (by simp) (fun hσ => ?_)
  simp -implicitDefEqProofs only [c_impl_cloneDisk, RecDisk.vs, S0, S1, S2, S3, S4, S5, S6, S7, S8, S9, S10, S11, S12, S13, S14, S15, opv, opvs, eget, env0, setD, lenStr, lenSl, isNilP, isNilS, putAt, if_true, if_false, reduceCtorEq, Nat.reduceLeDiff, Nat.reduceEqDiff, Nat.reduceSub, Nat.reduceMul, Nat.reduceAdd]
  refine call_by (by rw [List.append_nil]; exact impl_cloneSlots d.Slots hd.Slots.1 _) ?_
  rintro u σ' ⟨τ, is, rfl, ho, hw⟩
  have e := ho.one
  simp -implicitDefEqProofs only [one_cells e, e, S0, S1, S2, S3, S4, S5, S6, S7, S8, S9, S10, S11, S12, S13, S14, S15, opv, opvs, eget, env0, setD, lenStr, lenSl, isNilP, isNilS, putAt, if_true, if_false, reduceCtorEq, Nat.reduceLeDiff, Nat.reduceEqDiff, Nat.reduceSub, Nat.reduceMul, Nat.reduceAdd]
  refine fin_keep (by simp) ⟨_, _, is ++ [], rfl, rfl, .int (.int (.lst (own_pre (A := [_, _]) (A' := [_, _]) (B := τ) (B' := τ) ho hw (List.append_assoc ..) rfl rfl (by simp) (by simp)) .nil0)), ?_⟩
  simp only [List.length_append, List.length_cons, List.length_nil] at hw ⊢
  exact wi_last hw (by omega) (by omega)
def c_spec_l22Message : C := (.seq (.ops [⟨(some 1), none, (.box (.t 0))⟩, ⟨(some 2), none, (.new [(.t (.int .i64 0)), (.t (.int .i64 0)), (.t (.int .i64 0)), (.t (.int .i64 0)), (.t (.int .i64 0)), (.t (.int .i64 0)), (.t (.str [])), .nils])⟩]) (.seq (.ops [⟨(some 3), none, (.fieldAddr 7 (.t 1))⟩, ⟨(some 4), none, (.load none (.t 3))⟩, ⟨(some 5), none, (.call (.c (.fn (.func 82) [])) [(.t 4)])⟩, ⟨(some 6), none, (.fieldAddr 7 (.t 1))⟩, ⟨none, none, (.store 1 (.t 6) (.t 5))⟩]) (.seq (.ops [⟨(some 7), none, (.load (some 8) (.t 1))⟩, ⟨none, none, (.store 8 (.t 2) (.t 7))⟩]) .ret)))
theorem k_spec_l22Message : comp Try.prog 8 (Try.f166.body.getD .skip) = some c_spec_l22Message := by kernel_rfl

def c_spec_l22Messages : C := (.seq (.ops [⟨(some 2), none, (.mv (.c .nils))⟩]) (.seq (.ops [⟨(some 5), none, (.lit none 8 0 [(.t (.int .i64 0)), (.t (.int .i64 0)), (.t (.int .i64 0)), (.t (.int .i64 0)), (.t (.int .i64 0)), (.t (.int .i64 0)), (.t (.str [])), .nils] [])⟩, ⟨(some 3), none, (.mv (.t 5))⟩]) (.seq (.seq (.ops [⟨(some 4), none, (.mv (.c (.t (.int .i64 0))))⟩]) (.block 0 (.loop (.seq (.seq (.ops [⟨(some 6), none, (.mv (.t 4))⟩, ⟨(some 7), none, (.mv (.t 0))⟩, ⟨(some 8), none, (.len false (.t 7))⟩, ⟨(some 9), none, (.bin .lss (.t 6) (.t 8))⟩]) (.cond (.t 9) .skip (.exit 0))) (.seq (.block 1 (.ops [⟨(some 12), none, (.mv (.t 3))⟩, ⟨(some 13), none, (.mv (.t 0))⟩, ⟨(some 14), none, (.mv (.t 4))⟩, ⟨(some 15), none, (.indexAddr 8 (.t 13) (.t 14))⟩, ⟨(some 16), none, (.load (some 8) (.t 15))⟩, ⟨(some 17), none, (.call (.c (.fn (.func 166) [])) [(.t 16)])⟩, ⟨(some 18), none, (.lit none 8 1 [(.t (.int .i64 0)), (.t (.int .i64 0)), (.t (.int .i64 0)), (.t (.int .i64 0)), (.t (.int .i64 0)), (.t (.int .i64 0)), (.t (.str [])), .nils] [⟨0, (.t 17)⟩])⟩, ⟨(some 19), none, (.append 8 88 (.t 12) (.t 18))⟩, ⟨(some 3), none, (.mv (.t 19))⟩])) (.ops [⟨(some 10), none, (.mv (.t 4))⟩, ⟨(some 11), none, (.bin .add (.t 10) (.c (.t (.int .i64 1))))⟩, ⟨(some 4), none, (.mv (.t 11))⟩])))))) (.seq (.ops [⟨(some 20), none, (.mv (.t 3))⟩, ⟨(some 2), none, (.mv (.t 20))⟩]) .ret))))
theorem k_spec_l22Messages : comp Try.prog 21 (Try.f157.body.getD .skip) = some c_spec_l22Messages := by kernel_rfl

theorem spec_l22Message (m : RecMessage) (hm : m.Ok) (σ : Store) : ACalls Try.prog 166 [.agg m.vs] σ (ToLR m.ts σ) := by
  refine acalls_of Try.func166 (by decide +kernel) (code := Try.f166.body.getD .skip) (n := 8) (c := c_spec_l22Message) (rs := [(.cell 2 (some 8))]) rfl rfl k_spec_l22Message (by kernel_rfl) (by simp) (fun hσ => ?_)
  simp -implicitDefEqProofs only [c_spec_l22Message, RecMessage.vs, S0, S1, S2, S3, S4, S5, S6, S7, S8, S9, S10, S11, S12, S13, S14, S15, opv, opvs, eget, env0, setD, lenStr, lenSl, isNilP, isNilS, putAt, if_true, if_false, reduceCtorEq, Nat.reduceLeDiff, Nat.reduceEqDiff, Nat.reduceSub, Nat.reduceMul, Nat.reduceAdd]
  refine call_by (by rw [List.append_nil]; exact spec_l21Slots m.Slots hm.Slots.1 _) ?_
  rintro u σ' ⟨τ, is, rfl, ho, hw⟩
  have e := ho.one
  simp -implicitDefEqProofs only [one_cells e, e, S0, S1, S2, S3, S4, S5, S6, S7, S8, S9, S10, S11, S12, S13, S14, S15, opv, opvs, eget, env0, setD, lenStr, lenSl, isNilP, isNilS, putAt, if_true, if_false, reduceCtorEq, Nat.reduceLeDiff, Nat.reduceEqDiff, Nat.reduceSub, Nat.reduceMul, Nat.reduceAdd]
  refine fin_keep (by simp) ⟨_, _, is ++ [], rfl, rfl, .int (.int (.int (.int (.int (.int (.str (.lst (own_pre (A := [_, _]) (A' := [_, _]) (B := τ) (B' := τ) ho hw (List.append_assoc ..) rfl rfl (by simp) (by simp)) .nil0))))))), ?_⟩
  simp only [List.length_append, List.length_cons, List.length_nil] at hw ⊢
  exact wi_last hw (by omega) (by omega)
theorem spec_l22Messages (l : List RecMessage) (hl : RecMessage.OkS l) (σ : Store) : ACalls Try.prog 157 [.t (tRecMessageS l)] σ (ToR (tRecMessageS l) σ) := by
  refine acalls_of Try.func157 (by decide +kernel) (code := Try.f157.body.getD .skip) (n := 21) (c := c_spec_l22Messages) (rs := [(.tmp 2)]) rfl rfl k_spec_l22Messages (by kernel_rfl) (by simp) (fun hσ => ?_)
  have hl1 := hl.1
  simp -implicitDefEqProofs only [c_spec_l22Messages, tRecMessageS, S0, S1, S2, S3, S4, S5, S6, S7, S8, S9, S10, S11, S12, S13, S14, S15, opv, opvs, eget, env0, setD, lenStr, lenSl, isNilP, isNilS, putAt, if_true, if_false, reduceCtorEq, Nat.reduceLeDiff, Nat.reduceEqDiff, Nat.reduceSub, Nat.reduceMul, Nat.reduceAdd]
  refine lit_own ?_
  simp -implicitDefEqProofs only [S0, S1, S2, S3, S4, S5, S6, S7, S8, S9, S10, S11, S12, S13, S14, S15, opv, opvs, eget, env0, setD, lenStr, lenSl, isNilP, isNilS, putAt, if_true, if_false, reduceCtorEq, Nat.reduceLeDiff, Nat.reduceEqDiff, Nat.reduceSub, Nat.reduceMul, Nat.reduceAdd]
  refine loop_g [3, 4, 0] [0] (fun x : Nat × List (List V) × Store × List Nat => [(3, .sl σ.length x.1 0 x.1), (4, .t (.int .i64 (x.1 : Nat)))]) (fun x => σ ++ .slc 8 x.2.1 :: x.2.2.1)
    (fun x => x.1 ≤ l.length ∧ x.2.1.length = x.1 ∧ OwnR (σ ++ .slc 8 x.2.1 :: x.2.2.1) ((l.map RecMessage.ts).take x.1) x.2.1 x.2.2.2 ∧ Wi x.2.2.2 (σ.length + 1) (σ ++ .slc 8 x.2.1 :: x.2.2.1).length) (fun x => l.length - x.1) (0, [], [], []) (by simp) ⟨Nat.zero_le _, rfl, by simp [OwnR], Wi.nil⟩ rfl rfl ?_
  rintro ⟨k, R, τ, is⟩ ⟨hk, hR, ho, hw⟩
  simp only at hk hR ho hw
  simp -implicitDefEqProofs only [keep, List.length_map, S0, S1, S2, S3, S4, S5, S6, S7, S8, S9, S10, S11, S12, S13, S14, S15, opv, opvs, eget, env0, setD, lenStr, lenSl, isNilP, isNilS, putAt, if_true, if_false, reduceCtorEq, Nat.reduceLeDiff, Nat.reduceEqDiff, Nat.reduceSub, Nat.reduceMul, Nat.reduceAdd]
  refine cond_split (fun h1 => ?_) (fun h1 => ?_)
  · obtain ⟨x, hx, hlt⟩ := at_of h1
    have hx' : (l.map RecMessage.ts)[k]? = some x.ts := by rw [List.getElem?_map, hx]; rfl
    simp -implicitDefEqProofs only [hx, nat_nn, List.getElem?_map, Option.map_some, RecMessage.ts, S0, S1, S2, S3, S4, S5, S6, S7, S8, S9, S10, S11, S12, S13, S14, S15, opv, opvs, eget, env0, setD, lenStr, lenSl, isNilP, isNilS, putAt, if_true, if_false, reduceCtorEq, Nat.reduceLeDiff, Nat.reduceEqDiff, Nat.reduceSub, Nat.reduceMul, Nat.reduceAdd]
    refine call_by (by rw [List.append_nil]; exact spec_l22Message x (hl.2 x (mem_at hx)) _) ?_
    rintro v σ' ⟨us, τ', js, rfl, rfl, hu, hv⟩
    have hul : us.length = 8 := hu.len
    have c1 : 0 < 1 := by omega
    have b1 : (k + 1) * 88 ≤ maxBy := by simp only [maxBy]; omega
    have b2 : k ≤ 9223372036854775806 := by omega
    have hrow : (([us] : List (List V)).all fun r => r.all one) = true := by simp [hu.ones]
    simp -implicitDefEqProofs only [hul, hu.ones, c1, S0, S1, S2, S3, S4, S5, S6, S7, S8, S9, S10, S11, S12, S13, S14, S15, opv, opvs, eget, env0, setD, lenStr, lenSl, isNilP, isNilS, putAt, if_true, if_false, reduceCtorEq, Nat.reduceLeDiff, Nat.reduceEqDiff, Nat.reduceSub, Nat.reduceMul, Nat.reduceAdd]
    refine lit_rows ?_
    simp -implicitDefEqProofs only [q_rows_r _ _ hrow, hR, b1, b2, i64_succ (show k < 4611686018427387904 by omega), S0, S1, S2, S3, S4, S5, S6, S7, S8, S9, S10, S11, S12, S13, S14, S15, opv, opvs, eget, env0, setD, lenStr, lenSl, isNilP, isNilS, putAt, if_true, if_false, reduceCtorEq, Nat.reduceLeDiff, Nat.reduceEqDiff, Nat.reduceSub, Nat.reduceMul, Nat.reduceAdd]
    obtain ⟨g1, g2⟩ := own_grow (o' := .slc 8 (R ++ [us])) hx' ho hw (by simpa using hu) (by simpa using hv)
    exact lk_g (k + 1, R ++ [us], τ ++ τ', is ++ js) (by simp only; omega) ⟨by simp only; omega, by simp [hR], g1, by simp only [List.length_append, List.length_cons] at g2 ⊢; exact g2.mono (Nat.le_refl _) (by omega)⟩ (by simp) rfl rfl
  · have hkk := end_of h1 hk
    subst hkk
    simp -implicitDefEqProofs only [S0, S1, S2, S3, S4, S5, S6, S7, S8, S9, S10, S11, S12, S13, S14, S15, opv, opvs, eget, env0, setD, lenStr, lenSl, isNilP, isNilS, putAt, if_true, if_false, reduceCtorEq, Nat.reduceLeDiff, Nat.reduceEqDiff, Nat.reduceSub, Nat.reduceMul, Nat.reduceAdd]
    refine fin_keep (by simp) ⟨_, σ.length :: is, rfl, ?_, Wi.cons hw (by omega) (by omega) (by simp)⟩
    rw [List.take_of_length_le (by simp)] at ho
    simp only [mkRes, Own]
    exact ⟨by omega, .inr ⟨σ.length, is, R, rfl, by rw [hR], by simp, ho⟩⟩
end Go.Proofs.Ytleilaipdhmgeaa.W

end


section
open Go Go.Ab
set_option maxHeartbeats 2000000
namespace Go.Proofs.Ytleilaipdhmgeaa.W
def c_impl_cloneMessages : C := (.seq (.ops [⟨(some 2), none, (.mv (.c .nils))⟩]) (.seq (.ops [⟨(some 3), none, (.mv (.c .nils))⟩]) (.seq (.seq (.ops [⟨(some 6), none, (.mv (.t 0))⟩, ⟨(some 7), none, (.len false (.t 6))⟩, ⟨(some 8), none, (.mv (.c (.t (.int .i64 0))))⟩]) (.block 0 (.loop (.seq (.ops [⟨(some 9), none, (.bin .lss (.t 8) (.t 7))⟩]) (.seq (.cond (.t 9) .skip (.exit 0)) (.seq (.block 1 (.seq (.ops [⟨(some 10), none, (.indexAddr 8 (.t 6) (.t 8))⟩, ⟨(some 11), none, (.load (some 8) (.t 10))⟩, ⟨(some 5), none, (.new [(.t (.int .i64 0)), (.t (.int .i64 0)), (.t (.int .i64 0)), (.t (.int .i64 0)), (.t (.int .i64 0)), (.t (.int .i64 0)), (.t (.str [])), .nils])⟩, ⟨none, none, (.store 8 (.t 5) (.t 11))⟩]) (.seq (.ops [⟨(some 12), none, (.fieldAddr 7 (.t 5))⟩, ⟨(some 13), none, (.load none (.t 12))⟩, ⟨(some 14), none, (.call (.c (.fn (.func 155) [])) [(.t 13)])⟩, ⟨(some 15), none, (.fieldAddr 7 (.t 5))⟩, ⟨none, none, (.store 1 (.t 15) (.t 14))⟩]) (.ops [⟨(some 16), none, (.mv (.t 3))⟩, ⟨(some 17), none, (.load (some 8) (.t 5))⟩, ⟨(some 18), none, (.lit none 8 1 [(.t (.int .i64 0)), (.t (.int .i64 0)), (.t (.int .i64 0)), (.t (.int .i64 0)), (.t (.int .i64 0)), (.t (.int .i64 0)), (.t (.str [])), .nils] [⟨0, (.t 17)⟩])⟩, ⟨(some 19), none, (.append 8 88 (.t 16) (.t 18))⟩, ⟨(some 3), none, (.mv (.t 19))⟩])))) (.ops [⟨(some 20), none, (.bin .add (.t 8) (.c (.t (.int .i64 1))))⟩, ⟨(some 8), none, (.mv (.t 20))⟩]))))))) (.seq (.ops [⟨(some 21), none, (.mv (.t 3))⟩, ⟨(some 2), none, (.mv (.t 21))⟩]) .ret))))
theorem k_impl_cloneMessages : comp Try.prog 22 (Try.f154.body.getD .skip) = some c_impl_cloneMessages := by kernel_rfl

structure Gc where
  A : Store
  R : List (List V)
  τ : Store
  is : List Nat
def cv (σ : Store) (g : Gc) : Nat → V
  | 0 => .nils
  | k + 1 => .sl (σ.length + g.A.length) (k + 1) 0 (k + 1)
def cst (σ : Store) (n : Nat) (g : Gc) : Nat → Store
  | 0 => σ
  | k + 1 => σ ++ (g.A ++ .slc n g.R :: g.τ)
def cI (σ : Store) (n : Nat) (rows : List (List T)) (g : Gc) : Nat → Prop
  | 0 => True
  | k + 1 => k + 1 ≤ rows.length ∧ g.R.length = k + 1 ∧ OwnR ((σ ++ g.A) ++ .slc n g.R :: g.τ) (rows.take (k + 1)) g.R g.is ∧ Wj g.is σ.length (σ ++ g.A).length ((σ ++ g.A) ++ .slc n g.R :: g.τ).length
theorem impl_cloneMessages (l : List RecMessage) (hl : RecMessage.OkS l) (σ : Store) : ACalls Try.prog 154 [.t (tRecMessageS l)] σ (ToR (tRecMessageS l) σ) := by
  refine acalls_of Try.func154 (by decide +kernel) (code := Try.f154.body.getD .skip) (n := 22) (c := c_impl_cloneMessages) (rs := [(.tmp 2)]) rfl rfl k_impl_cloneMessages (by kernel_rfl) (by simp) (fun hσ => ?_)
  have hl1 := hl.1
  simp -implicitDefEqProofs only [c_impl_cloneMessages, tRecMessageS, List.length_map, S0, S1, S2, S3, S4, S5, S6, S7, S8, S9, S10, S11, S12, S13, S14, S15, opv, opvs, eget, env0, setD, lenStr, lenSl, isNilP, isNilS, putAt, if_true, if_false, reduceCtorEq, Nat.reduceLeDiff, Nat.reduceEqDiff, Nat.reduceSub, Nat.reduceMul, Nat.reduceAdd]
  refine loop_g [3, 8, 6, 7] [6, 7] (fun x : Nat × Gc => [(3, cv σ x.2 x.1), (8, .t (.int .i64 (x.1 : Nat)))]) (fun x => cst σ 8 x.2 x.1) (fun x => cI σ 8 (l.map RecMessage.ts) x.2 x.1 ∧ x.1 ≤ l.length) (fun x => l.length - x.1) (0, ⟨[], [], [], []⟩) (Nat.le_refl _) ⟨trivial, Nat.zero_le _⟩ rfl rfl ?_
  rintro ⟨k, g⟩ ⟨hI, hk⟩
  simp only at hI hk
  have bl : σ.length ≤ (cst σ 8 g k).length := by cases k <;> simp [cst]
  simp -implicitDefEqProofs only [keep, S0, S1, S2, S3, S4, S5, S6, S7, S8, S9, S10, S11, S12, S13, S14, S15, opv, opvs, eget, env0, setD, lenStr, lenSl, isNilP, isNilS, putAt, if_true, if_false, reduceCtorEq, Nat.reduceLeDiff, Nat.reduceEqDiff, Nat.reduceSub, Nat.reduceMul, Nat.reduceAdd]
  refine cond_split (fun h1 => ?_) (fun h1 => ?_)
  · obtain ⟨x, hx, hlt⟩ := at_of h1
    have hx' : (l.map RecMessage.ts)[k]? = some x.ts := by rw [List.getElem?_map, hx]; rfl
    have hok := hl.2 x (mem_at hx)
    have more := i64_succ (show k < 4611686018427387904 by omega)
    have c1 : 0 < 1 := by omega
    rcases k with _ | k
    · simp -implicitDefEqProofs only [cv, cst, hx, nat_nn, List.getElem?_map, Option.map_some, RecMessage.ts, S0, S1, S2, S3, S4, S5, S6, S7, S8, S9, S10, S11, S12, S13, S14, S15, opv, opvs, eget, env0, setD, lenStr, lenSl, isNilP, isNilS, putAt, if_true, if_false, reduceCtorEq, Nat.reduceLeDiff, Nat.reduceEqDiff, Nat.reduceSub, Nat.reduceMul, Nat.reduceAdd]
      refine call_by (by rw [List.append_nil]; exact impl_cloneSlots x.Slots hok.Slots.1 _) ?_
      rintro u σ' ⟨τ, is, rfl, ho, hw⟩
      have e := ho.one
      have b1 : 1 * 88 ≤ maxBy := by simp only [maxBy]; omega
      have b1' : 88 ≤ maxBy := by simp only [maxBy]; omega
      have b3 : 1 ≤ 9223372036854775807 := by omega
      simp -implicitDefEqProofs only [one_cells e, e, c1, S0, S1, S2, S3, S4, S5, S6, S7, S8, S9, S10, S11, S12, S13, S14, S15, opv, opvs, eget, env0, setD, lenStr, lenSl, isNilP, isNilS, putAt, if_true, if_false, reduceCtorEq, Nat.reduceLeDiff, Nat.reduceEqDiff, Nat.reduceSub, Nat.reduceMul, Nat.reduceAdd]
      refine lit_rows ?_
      have hrow : ((([[V.t (T.int .i64 x.Kind), .t (.int .i64 x.From), .t (.int .i64 x.To), .t (.int .i64 x.Ballot), .t (.int .i64 x.Index), .t (.int .i64 x.Known), .t (.str x.Text), u]] : List (List V)).all fun r => r.all one) = true) := by simp only [List.all_cons, List.all_nil, q_one_t, e, Bool.and_self, Bool.and_true]
      simp -implicitDefEqProofs only [q_rows_r _ _ hrow, b1, b1', b3, more, S0, S1, S2, S3, S4, S5, S6, S7, S8, S9, S10, S11, S12, S13, S14, S15, opv, opvs, eget, env0, setD, lenStr, lenSl, isNilP, isNilS, putAt, if_true, if_false, reduceCtorEq, Nat.reduceLeDiff, Nat.reduceEqDiff, Nat.reduceSub, Nat.reduceMul, Nat.reduceAdd]
      have hO := fun (o : Go.Ab.Obj) (o2 : Go.Ab.Obj) => (OwnL.int (OwnL.int (OwnL.int (OwnL.int (OwnL.int (OwnL.int (OwnL.str (OwnL.lst (own_pre (F := (σ ++ (o :: τ)) ++ [o2]) (A := [_]) (A' := [o]) (B := τ) (B' := τ ++ [o2]) ho hw (List.append_assoc ..) (by simp) rfl (by simp) (by simp)) OwnL.nil0))))))) : OwnL ((σ ++ (o :: τ)) ++ [o2]) x.ts [.t (.int .i64 x.Kind), .t (.int .i64 x.From), .t (.int .i64 x.To), .t (.int .i64 x.Ballot), .t (.int .i64 x.Index), .t (.int .i64 x.Known), .t (.str x.Text), u] (is ++ []))
      refine lk_g (1, ⟨.box [.t (.int .i64 x.Kind), .t (.int .i64 x.From), .t (.int .i64 x.To), .t (.int .i64 x.Ballot), .t (.int .i64 x.Index), .t (.int .i64 x.Known), .t (.str x.Text), u] :: τ, [[.t (.int .i64 x.Kind), .t (.int .i64 x.From), .t (.int .i64 x.To), .t (.int .i64 x.Ballot), .t (.int .i64 x.Index), .t (.int .i64 x.Known), .t (.str x.Text), u]], [], is ++ []⟩) (by simp only; omega) ⟨?_, by simp only; omega⟩ (by simp) (by simp) ?_
      · simp only [cI]
        refine ⟨by simp; omega, rfl, ?_, ?_⟩
        · rw [take_of hx', List.take_zero, List.nil_append]
          exact OwnR.one (hO _ _)
        · refine ⟨by rw [List.append_nil]; exact hw.1, fun i hi => ?_⟩
          rw [List.append_nil] at hi
          have := hw.2 i hi
          simp only [List.length_append, List.length_cons, List.length_nil] at this ⊢
          omega
      · simp [keep, eget, Nat.add_comm]
    · simp only [cI] at hI
      obtain ⟨i1, i2, i3, i4⟩ := hI
      simp -implicitDefEqProofs only [cv, cst, hx, nat_nn, List.getElem?_map, Option.map_some, RecMessage.ts, S0, S1, S2, S3, S4, S5, S6, S7, S8, S9, S10, S11, S12, S13, S14, S15, opv, opvs, eget, env0, setD, lenStr, lenSl, isNilP, isNilS, putAt, if_true, if_false, reduceCtorEq, Nat.reduceLeDiff, Nat.reduceEqDiff, Nat.reduceSub, Nat.reduceMul, Nat.reduceAdd]
      refine call_by (by rw [List.append_nil]; exact impl_cloneSlots x.Slots hok.Slots.1 _) ?_
      rintro u σ' ⟨τ, is, rfl, ho, hw⟩
      have e := ho.one
      have b1 : (k + 1 + 1) * 88 ≤ maxBy := by simp only [maxBy]; omega
      have b1' : (k + 2) * 88 ≤ maxBy := by simp only [maxBy]; omega
      have b2 : k ≤ 9223372036854775805 := by omega
      simp -implicitDefEqProofs only [one_cells e, e, c1, S0, S1, S2, S3, S4, S5, S6, S7, S8, S9, S10, S11, S12, S13, S14, S15, opv, opvs, eget, env0, setD, lenStr, lenSl, isNilP, isNilS, putAt, if_true, if_false, reduceCtorEq, Nat.reduceLeDiff, Nat.reduceEqDiff, Nat.reduceSub, Nat.reduceMul, Nat.reduceAdd]
      refine lit_rows ?_
      have hrow : ((([[V.t (.int .i64 x.Kind), V.t (.int .i64 x.From), V.t (.int .i64 x.To), V.t (.int .i64 x.Ballot), V.t (.int .i64 x.Index), V.t (.int .i64 x.Known), V.t (.str x.Text), u]] : List (List V)).all fun r => r.all one) = true) := by simp only [List.all_cons, List.all_nil, q_one_t, e, Bool.and_self, Bool.and_true]
      simp -implicitDefEqProofs only [q_rows_r _ _ hrow, i2, b1, b1', b2, more, S0, S1, S2, S3, S4, S5, S6, S7, S8, S9, S10, S11, S12, S13, S14, S15, opv, opvs, eget, env0, setD, lenStr, lenSl, isNilP, isNilS, putAt, if_true, if_false, reduceCtorEq, Nat.reduceLeDiff, Nat.reduceEqDiff, Nat.reduceSub, Nat.reduceMul, Nat.reduceAdd]
      have hO : OwnL ((σ ++ g.A) ++ .slc 8 g.R :: (g.τ ++ (.box [.t (.int .i64 x.Kind), .t (.int .i64 x.From), .t (.int .i64 x.To), .t (.int .i64 x.Ballot), .t (.int .i64 x.Index), .t (.int .i64 x.Known), .t (.str x.Text), u] :: τ))) x.ts [.t (.int .i64 x.Kind), .t (.int .i64 x.From), .t (.int .i64 x.To), .t (.int .i64 x.Ballot), .t (.int .i64 x.Index), .t (.int .i64 x.Known), .t (.str x.Text), u] (is ++ []) :=
        (OwnL.int (OwnL.int (OwnL.int (OwnL.int (OwnL.int (OwnL.int (OwnL.str (OwnL.lst (own_pre (σ := σ ++ (g.A ++ .slc 8 g.R :: g.τ)) (A := [.box [.t (.int .i64 x.Kind), .t (.int .i64 x.From), .t (.int .i64 x.To), .t (.int .i64 x.Ballot), .t (.int .i64 x.Index), .t (.int .i64 x.Known), .t (.str x.Text), .t (.lst 2 (x.Slots.map RecSlot.ts))]]) (A' := [.box [.t (.int .i64 x.Kind), .t (.int .i64 x.From), .t (.int .i64 x.To), .t (.int .i64 x.Ballot), .t (.int .i64 x.Index), .t (.int .i64 x.Known), .t (.str x.Text), u]]) (B := τ) (B' := τ) ho hw (by simp) (by simp) rfl (List.prefix_refl _) (by simp; omega)) OwnL.nil0))))))))
      obtain ⟨g1, g2⟩ := own_grow2 (o' := .slc 8 (g.R ++ [[.t (.int .i64 x.Kind), .t (.int .i64 x.From), .t (.int .i64 x.To), .t (.int .i64 x.Ballot), .t (.int .i64 x.Index), .t (.int .i64 x.Known), .t (.str x.Text), u]])) (a := σ.length) (by simp) hx' i3 i4 hO (by
        rw [List.append_nil]
        simp only [List.length_append, List.length_cons, List.length_nil] at hw ⊢
        exact hw.mono (by omega) (by omega))
      refine lk_g (k + 2, ⟨g.A, g.R ++ [[.t (.int .i64 x.Kind), .t (.int .i64 x.From), .t (.int .i64 x.To), .t (.int .i64 x.Ballot), .t (.int .i64 x.Index), .t (.int .i64 x.Known), .t (.str x.Text), u]], g.τ ++ (.box [.t (.int .i64 x.Kind), .t (.int .i64 x.From), .t (.int .i64 x.To), .t (.int .i64 x.Ballot), .t (.int .i64 x.Index), .t (.int .i64 x.Known), .t (.str x.Text), u] :: τ), g.is ++ (is ++ [])⟩) (by simp only; omega) ⟨?_, by simp only; omega⟩ (by simp) (by simp) (by simp [keep, eget])
      simp only [cI]
      exact ⟨by simp; omega, by simp [i2], g1, g2⟩
  · have hkk := end_of h1 hk
    subst hkk
    simp -implicitDefEqProofs only [S0, S1, S2, S3, S4, S5, S6, S7, S8, S9, S10, S11, S12, S13, S14, S15, opv, opvs, eget, env0, setD, lenStr, lenSl, isNilP, isNilS, putAt, if_true, if_false, reduceCtorEq, Nat.reduceLeDiff, Nat.reduceEqDiff, Nat.reduceSub, Nat.reduceMul, Nat.reduceAdd]
    cases hl0 : l with
    | nil =>
      subst hl0
      refine fin_keep bl ⟨[], [], by simp [cst], ?_, Wi.nil⟩
      simp [mkRes, cv, Own]
    | cons a l' =>
      rw [← hl0]
      have hlen : l.length = l'.length + 1 := by rw [hl0]; rfl
      rw [hlen] at hI bl ⊢
      simp only [cI] at hI
      obtain ⟨i1, i2, i3, i4⟩ := hI
      refine fin_keep bl ⟨_, (σ ++ g.A).length :: g.is, by simp only [cst]; rfl, ?_, ?_⟩
      · rw [List.take_of_length_le (by simp; omega)] at i3
        simp only [mkRes, Own]
        refine ⟨by omega, .inr ⟨(σ ++ g.A).length, g.is, g.R, rfl, by simp [cv, i2], by simp [cst], by simpa [cst] using i3⟩⟩
      · exact (i4.cons (by simp) (by simp)).mono (Nat.le_refl _) (by simp [cst])
end Go.Proofs.Ytleilaipdhmgeaa.W

end


section
open Go Go.Ab
set_option maxHeartbeats 4000000
namespace Go.Proofs.Ytleilaipdhmgeaa.W
def c_impl_clone_rec : C := (.seq (.ops [⟨(some 1), none, (.box (.t 0))⟩, ⟨(some 2), none, (.new [(.t (.int .i64 0)), (.t (.int .i64 0)), (.t (.bool false)), (.t (.int .i64 0)), (.t (.int .i64 0)), .nils, (.t (.int .i64 0)), (.t (.int .i64 0)), .nils, .nils, .nils, (.t (.bool false)), (.t (.bool false)), (.t (.int .i64 0)), .nils, .nils, .nils, (.t (.int .i64 0))])⟩]) (.seq (.drawn [(.mk 0 false ⟨(some 6), none, (.fieldAddr 3 (.t 1))⟩), (.mk 1 false ⟨(some 7), none, (.load (some 3) (.t 6))⟩), (.mk 3 false ⟨(some 9), none, (.fieldAddr 6 (.t 1))⟩), (.mk 4 false ⟨(some 10), none, (.load (some 3) (.t 9))⟩), (.mk 2 true ⟨(some 8), none, (.call (.c (.fn (.func 153) [])) [(.t 7)])⟩), (.mk 6 false ⟨(some 12), none, (.fieldAddr 3 (.t 1))⟩), (.mk 5 false ⟨(some 11), none, (.call (.c (.fn (.func 153) [])) [(.t 10)])⟩), (.mk 7 false ⟨none, none, (.store 3 (.t 12) (.t 8))⟩), (.mk 8 false ⟨(some 13), none, (.fieldAddr 6 (.t 1))⟩), (.mk 9 false ⟨none, none, (.store 3 (.t 13) (.t 11))⟩)]) (.seq (.ops [⟨(some 14), none, (.fieldAddr 9 (.t 1))⟩, ⟨(some 15), none, (.load none (.t 14))⟩, ⟨(some 16), none, (.call (.c (.fn (.func 154) [])) [(.t 15)])⟩, ⟨(some 17), none, (.fieldAddr 9 (.t 1))⟩, ⟨none, none, (.store 1 (.t 17) (.t 16))⟩]) (.seq (.ops [⟨(some 18), none, (.fieldAddr 10 (.t 1))⟩, ⟨(some 19), none, (.load none (.t 18))⟩, ⟨(some 20), none, (.append 1 16 (.c .nils) (.t 19))⟩, ⟨(some 21), none, (.fieldAddr 10 (.t 1))⟩, ⟨none, none, (.store 1 (.t 21) (.t 20))⟩]) (.seq (.ops [⟨(some 22), none, (.fieldAddr 14 (.t 1))⟩, ⟨(some 23), none, (.load none (.t 22))⟩, ⟨(some 24), none, (.append 1 8 (.c .nils) (.t 23))⟩, ⟨(some 25), none, (.fieldAddr 14 (.t 1))⟩, ⟨none, none, (.store 1 (.t 25) (.t 24))⟩]) (.seq (.ops [⟨(some 26), none, (.fieldAddr 15 (.t 1))⟩, ⟨(some 27), none, (.load none (.t 26))⟩, ⟨(some 28), none, (.call (.c (.fn (.func 155) [])) [(.t 27)])⟩, ⟨(some 29), none, (.fieldAddr 15 (.t 1))⟩, ⟨none, none, (.store 1 (.t 29) (.t 28))⟩]) (.seq (.ops [⟨(some 3), none, (.mv (.c .nils))⟩]) (.seq (.seq (.ops [⟨(some 30), none, (.fieldAddr 16 (.t 1))⟩, ⟨(some 31), none, (.load none (.t 30))⟩, ⟨(some 32), none, (.len false (.t 31))⟩, ⟨(some 33), none, (.mv (.c (.t (.int .i64 0))))⟩]) (.block 0 (.loop (.seq (.ops [⟨(some 34), none, (.bin .lss (.t 33) (.t 32))⟩]) (.seq (.cond (.t 34) .skip (.exit 0)) (.seq (.block 1 (.seq (.ops [⟨(some 35), none, (.indexAddr 2 (.t 31) (.t 33))⟩, ⟨(some 36), none, (.load (some 2) (.t 35))⟩, ⟨(some 5), none, (.new [(.t (.int .i64 0)), .nils])⟩, ⟨none, none, (.store 2 (.t 5) (.t 36))⟩]) (.drawn [(.mk 0 false ⟨(some 37), none, (.mv (.t 3))⟩), (.mk 1 false ⟨(some 38), none, (.fieldAddr 0 (.t 5))⟩), (.mk 2 false ⟨(some 39), none, (.load none (.t 38))⟩), (.mk 3 false ⟨(some 40), none, (.fieldAddr 1 (.t 5))⟩), (.mk 4 false ⟨(some 41), none, (.load none (.t 40))⟩), (.mk 5 true ⟨(some 42), none, (.append 1 8 (.c .nils) (.t 41))⟩), (.mk 6 false ⟨(some 43), none, (.build [(.t (.int .i64 0)), .nils] [⟨0, ⟨1, (.t 39)⟩⟩, ⟨1, ⟨1, (.t 42)⟩⟩])⟩), (.mk 7 false ⟨(some 44), none, (.lit (some false) 2 1 [(.t (.int .i64 0)), .nils] [⟨0, (.t 43)⟩])⟩), (.mk 8 false ⟨(some 45), none, (.append 2 32 (.t 37) (.t 44))⟩), (.mk 9 true ⟨(some 3), none, (.mv (.t 45))⟩)]))) (.ops [⟨(some 46), none, (.bin .add (.t 33) (.c (.t (.int .i64 1))))⟩, ⟨(some 33), none, (.mv (.t 46))⟩]))))))) (.seq (.ops [⟨(some 47), none, (.mv (.t 3))⟩, ⟨(some 48), none, (.fieldAddr 16 (.t 1))⟩, ⟨none, none, (.store 1 (.t 48) (.t 47))⟩]) (.seq (.ops [⟨(some 49), none, (.load (some 18) (.t 1))⟩, ⟨none, none, (.store 18 (.t 2) (.t 49))⟩]) .ret))))))))))
theorem k_impl_clone_rec : comp Try.prog 50 (Try.f127.body.getD .skip) = some c_impl_clone_rec := by kernel_rfl

theorem str_flat (l : List (List UInt8)) : ∀ r ∈ l.map tStr, ∀ t ∈ r, scalar t = true := by
  intro r hr t ht
  obtain ⟨x, _, rfl⟩ := List.mem_map.1 hr
  simp only [tStr, List.mem_cons, List.not_mem_nil, or_false] at ht
  subst ht; rfl
theorem int_flat (l : List Int) : ∀ r ∈ l.map tInt, ∀ t ∈ r, scalar t = true := by
  intro r hr t ht
  obtain ⟨x, _, rfl⟩ := List.mem_map.1 hr
  simp only [tInt, List.mem_cons, List.not_mem_nil, or_false] at ht
  subst ht; rfl
theorem list3z {l : List V} (h : l.length = 3) : ∃ u0 u1 u2, l = [u0, u1, u2] := by
  match l, h with
  | [u0, u1, u2], _ => exact ⟨u0, u1, u2, rfl⟩
theorem own3 {s : Store} {a b : Int} {t : T} {us : List V} {is : List Nat} (h : OwnL s [.int .i64 a, .int .i64 b, t] us is) : ∃ u, us = [.t (.int .i64 a), .t (.int .i64 b), u] ∧ Own s t u is := by
  simp only [OwnL, Own] at h
  obtain ⟨_, _, _, _, rfl, rfl, ⟨rfl, rfl⟩, _, _, _, _, rfl, rfl, ⟨rfl, rfl⟩, u, _, i, j, rfl, rfl, h1, rfl, rfl⟩ := h
  exact ⟨u, rfl, by simpa using h1⟩
theorem impl_clone_rec (r : Recorder) (hr : r.Ok) (σ : Store) : ACalls Try.prog 127 [.agg r.vs] σ (ToLR r.ts σ) := by
  refine acalls_of Try.func127 (by decide +kernel) (code := Try.f127.body.getD .skip) (n := 50) (c := c_impl_clone_rec) (rs := [(.cell 2 (some 18))]) rfl rfl k_impl_clone_rec (by kernel_rfl) (by simp) (fun hσ => ?_)
  have y1 := hr.Wishes.1
  have y2 := hr.Yes.1
  have y3 := hr.Acks.1
  have b1 : r.Wishes.length * 16 ≤ maxBy := by simp only [maxBy]; omega
  have b2 : r.Wishes.length ≤ 9223372036854775807 := by omega
  have b3 : r.Yes.length * 8 ≤ maxBy := by simp only [maxBy]; omega
  have b4 : r.Yes.length ≤ 9223372036854775807 := by omega
  simp -implicitDefEqProofs only [c_impl_clone_rec, Recorder.vs, S0, S1, S2, S3, S4, S5, S6, S7, S8, S9, S10, S11, S12, S13, S14, S15, opv, opvs, eget, env0, setD, lenStr, lenSl, isNilP, isNilS, putAt, if_true, if_false, reduceCtorEq, Nat.reduceLeDiff, Nat.reduceEqDiff, Nat.reduceSub, Nat.reduceMul, Nat.reduceAdd]
  refine call_by (by rw [List.append_nil]; exact impl_cloneDisk r.Safe hr.Safe _) ?_
  rintro v σ' ⟨us, τ1, i1, rfl, rfl, o1, w1⟩
  obtain ⟨u1, rfl, O1⟩ := own3 o1
  clear o1
  have e1 := O1.one
  simp -implicitDefEqProofs only [e1, S0, S1, S2, S3, S4, S5, S6, S7, S8, S9, S10, S11, S12, S13, S14, S15, opv, opvs, eget, env0, setD, lenStr, lenSl, isNilP, isNilS, putAt, if_true, if_false, reduceCtorEq, Nat.reduceLeDiff, Nat.reduceEqDiff, Nat.reduceSub, Nat.reduceMul, Nat.reduceAdd]
  refine call_by (by rw [List.append_nil]; exact impl_cloneDisk r.Disk hr.Disk _) ?_
  rintro v σ' ⟨us, τ2, i2, rfl, rfl, o2, w2⟩
  obtain ⟨u2, rfl, O2⟩ := own3 o2
  clear o2
  have e2 := O2.one
  simp -implicitDefEqProofs only [e1, e2, S0, S1, S2, S3, S4, S5, S6, S7, S8, S9, S10, S11, S12, S13, S14, S15, opv, opvs, eget, env0, setD, lenStr, lenSl, isNilP, isNilS, putAt, if_true, if_false, reduceCtorEq, Nat.reduceLeDiff, Nat.reduceEqDiff, Nat.reduceSub, Nat.reduceMul, Nat.reduceAdd]
  refine call_by (by rw [List.append_nil]; exact impl_cloneMessages r.Held hr.Held _) ?_
  rintro u3 σ' ⟨τ3, i3, rfl, o3, w3⟩
  have e3 := o3.one
  simp -implicitDefEqProofs only [e1, e2, e3, one_cells e3, List.length_map, b1, b2, b3, b4, S0, S1, S2, S3, S4, S5, S6, S7, S8, S9, S10, S11, S12, S13, S14, S15, opv, opvs, eget, env0, setD, lenStr, lenSl, isNilP, isNilS, putAt, if_true, if_false, reduceCtorEq, Nat.reduceLeDiff, Nat.reduceEqDiff, Nat.reduceSub, Nat.reduceMul, Nat.reduceAdd]
  refine call_by (by rw [List.append_nil]; exact impl_cloneSlots r.Best hr.Best.1 _) ?_
  rintro u4 σ' ⟨τ4, i4, rfl, o4, w4⟩
  have e4 := o4.one
  simp -implicitDefEqProofs only [e1, e2, e3, one_cells e3, e4, one_cells e4, List.length_map, b1, b2, b3, b4, S0, S1, S2, S3, S4, S5, S6, S7, S8, S9, S10, S11, S12, S13, S14, S15, opv, opvs, eget, env0, setD, lenStr, lenSl, isNilP, isNilS, putAt, if_true, if_false, reduceCtorEq, Nat.reduceLeDiff, Nat.reduceEqDiff, Nat.reduceSub, Nat.reduceMul, Nat.reduceAdd]
  refine loop_g [3, 33, 1, 2, 31, 32] [1, 2, 31, 32] (fun g : Ga => [(3, g.v), (33, .t (.int .i64 (g.k : Nat)))]) Ga.s (OI _ 2 (r.Acks.map RecAck.ts)) (fun g => r.Acks.length - g.k) ⟨0, .nils, _, []⟩ (by simp) (OI.nil (by omega)) rfl rfl ?_
  rintro ⟨k, v, s, is⟩ ⟨hk, hl, hkp, ho, hv, hw⟩
  simp only [List.length_map] at hk hl hkp ho hv hw
  simp -implicitDefEqProofs only [keep, List.length_map, S0, S1, S2, S3, S4, S5, S6, S7, S8, S9, S10, S11, S12, S13, S14, S15, opv, opvs, eget, env0, setD, lenStr, lenSl, isNilP, isNilS, putAt, if_true, if_false, reduceCtorEq, Nat.reduceLeDiff, Nat.reduceEqDiff, Nat.reduceSub, Nat.reduceMul, Nat.reduceAdd]
  refine cond_split (fun h1 => ?_) (fun h1 => ?_)
  · obtain ⟨x, hx, hlt⟩ := at_of h1
    have hx' : (r.Acks.map RecAck.ts)[k]? = some x.ts := by rw [List.getElem?_map, hx]; rfl
    have hok := hr.Acks.2 x (mem_at hx)
    have hf := hok.From.1
    have more := i64_succ (show k < 4611686018427387904 by omega)
    have c1 : 0 < 1 := by omega
    have b5 : x.From.length * 8 ≤ maxBy := by simp only [maxBy]; omega
    have b6 : x.From.length ≤ 9223372036854775807 := by omega
    simp -implicitDefEqProofs only [hx, c1, b5, b6, nat_nn, List.getElem?_map, Option.map_some, RecAck.ts, List.length_map, S0, S1, S2, S3, S4, S5, S6, S7, S8, S9, S10, S11, S12, S13, S14, S15, opv, opvs, eget, env0, setD, lenStr, lenSl, isNilP, isNilS, putAt, if_true, if_false, reduceCtorEq, Nat.reduceLeDiff, Nat.reduceEqDiff, Nat.reduceSub, Nat.reduceMul, Nat.reduceAdd]
    have hrow : (([[V.t (.int .i64 x.Index), V.sl (s.length + 1) x.From.length 0 x.From.length]] : List (List V)).all fun r => r.all one) = true := rfl
    simp -implicitDefEqProofs only [q_rows_r _ _ hrow, S0, S1, S2, S3, S4, S5, S6, S7, S8, S9, S10, S11, S12, S13, S14, S15, opv, opvs, eget, env0, setD, lenStr, lenSl, isNilP, isNilS, putAt, if_true, if_false, reduceCtorEq, Nat.reduceLeDiff, Nat.reduceEqDiff, Nat.reduceSub, Nat.reduceMul, Nat.reduceAdd]
    have hfl : Own (s ++ [Go.Ab.Obj.box [V.t (T.int IntKind.i64 x.Index), V.t (T.lst 1 (List.map tInt x.From))], Go.Ab.Obj.slc 1 (List.map (fun r => List.map V.t r) (List.map tInt x.From))]) (.lst 1 (x.From.map tInt)) (V.sl (s.length + 1) x.From.length 0 x.From.length) [s.length + 1] := by
      have := own_rows (σ := s ++ [Go.Ab.Obj.box [V.t (T.int IntKind.i64 x.Index), V.t (T.lst 1 (List.map tInt x.From))], Go.Ab.Obj.slc 1 (List.map (fun r => List.map V.t r) (List.map tInt x.From))]) (id := s.length + 1) (n := 1) (by omega) (int_flat x.From) (by simp)
      simpa using this
    refine app_own ((Kp.app s _).own ho) hv (hw.mono (Nat.le_refl _) (by simp)) (r := x.ts) (OwnL.int (OwnL.lst hfl OwnL.nil0)) (js := [s.length + 1] ++ []) (by
      rw [List.append_nil]
      exact (wi_one _).mono (by omega) (by simp)) (fun i hi => by have := hw.2 i hi; simp; omega) (Nat.le_trans hl (by simp)) (by simp only [maxBy, List.length_take, List.length_map]; omega) (by simp only [List.length_take, List.length_map]; omega) ?_
    rintro v' s' is' hl' kb ho' hv' hw'
    simp -implicitDefEqProofs only [more, S0, S1, S2, S3, S4, S5, S6, S7, S8, S9, S10, S11, S12, S13, S14, S15, opv, opvs, eget, env0, setD, lenStr, lenSl, isNilP, isNilS, putAt, if_true, if_false, reduceCtorEq, Nat.reduceLeDiff, Nat.reduceEqDiff, Nat.reduceSub, Nat.reduceMul, Nat.reduceAdd]
    refine lk_g ⟨k + 1, v', s', is'⟩ (by simp only; omega) ?_ (by simp only [List.length_append, List.length_cons] at hl hl' ⊢; omega) rfl rfl
    exact OI.next (kp_app2 hkp) (by simp only [List.length_append, List.length_cons] at hl ⊢; omega) hx' kb hw hl' ho' hv' hw'
  · have hkk := end_of h1 (by simpa using hk)
    have e5 := hkp σ.length (by simp)
    have e6 := hkp (σ.length + 1) (by simp)
    have hsl : σ.length + 2 ≤ s.length := by simp only [List.length_append, List.length_cons] at hl; omega
    simp -implicitDefEqProofs only [S0, S1, S2, S3, S4, S5, S6, S7, S8, S9, S10, S11, S12, S13, S14, S15, opv, opvs, eget, env0, setD, lenStr, lenSl, isNilP, isNilS, putAt, if_true, if_false, reduceCtorEq, Nat.reduceLeDiff, Nat.reduceEqDiff, Nat.reduceSub, Nat.reduceMul, Nat.reduceAdd] at e5 e6
    rw [hkk, List.take_of_length_le (by simp)] at ho
    have e7 := ho.one
    simp -implicitDefEqProofs only [e5, one_cells e7, e7, List.getElem?_set_self (show σ.length < s.length by omega), List.getElem?_set_ne (show σ.length ≠ σ.length + 1 by omega), set2_self (l := s) (show σ.length + 1 < s.length by omega), e6, e1, e2, e3, e4, S0, S1, S2, S3, S4, S5, S6, S7, S8, S9, S10, S11, S12, S13, S14, S15, opv, opvs, eget, env0, setD, lenStr, lenSl, isNilP, isNilS, putAt, if_true, if_false, reduceCtorEq, Nat.reduceLeDiff, Nat.reduceEqDiff, Nat.reduceSub, Nat.reduceMul, Nat.reduceAdd]
    have W1 := w1
    have W2 := w2
    have W3 := w3
    have W4 := w4
    simp only [List.length_append, List.length_cons, List.length_nil] at w1 w2 w3 w4 hl hw
    have E := fun (o : Nat) => hkp (σ.length + o)
    have wv : Wi ([σ.length + (τ1.length + (τ2.length + (τ3.length + 2)))] : List Nat) (σ.length + (τ1.length + (τ2.length + (τ3.length + 2)))) (σ.length + (τ1.length + (τ2.length + (τ3.length + 3)))) := (wi_one _).mono (Nat.le_refl _) (by omega)
    have wy : Wi ([σ.length + (τ1.length + (τ2.length + (τ3.length + 3)))] : List Nat) (σ.length + (τ1.length + (τ2.length + (τ3.length + 3)))) (σ.length + (τ1.length + (τ2.length + (τ3.length + 4)))) := (wi_one _).mono (Nat.le_refl _) (by omega)
    refine fin_keep (by simp only [List.length_set]; omega) ⟨_, _, i1 ++ (i2 ++ (i3 ++ ([σ.length + (τ1.length + (τ2.length + (τ3.length + 2)))] ++ ([σ.length + (τ1.length + (τ2.length + (τ3.length + 3)))] ++ (i4 ++ (is ++ [])))))), rfl, kp_split (((Kp.trans (Kp.app _ _) (by simp) hkp).set (Nat.le_refl _)).set (by omega)) (by simp only [List.length_set]; omega), ?_, ?_⟩
    · simp only [Recorder.ts]
      refine .int (.int (.bool (.int (.int (.lst (set_own (set_own (hkp.own (own_pre (A := [_, _]) (A' := [_, _]) (B := τ1) O1 W1 (List.append_assoc ..) rfl (by simp) (by simp) (by simp only [List.length_append, List.length_cons, List.length_nil]; omega))) (wi_out w1 (by omega))) (wi_out w1 (by omega)))
        (.int (.int (.lst (set_own (set_own (hkp.own (own_pre (A := [_, _]) (A' := [_, _]) (B := τ1 ++ τ2) O2 W2 (List.append_assoc ..) rfl (by simp) (by simp) (by simp only [List.length_append, List.length_cons, List.length_nil]; omega))) (wi_out w2 (by omega))) (wi_out w2 (by omega)))
        (.lst (set_own (set_own (hkp.own (own_pre (A := [_, _]) (A' := [_, _]) (B := (τ1 ++ τ2) ++ τ3) o3 W3 (List.append_assoc ..) rfl (by simp) (by simp) (by simp only [List.length_append, List.length_cons, List.length_nil]; omega))) (wi_out w3 (by omega))) (wi_out w3 (by omega)))
        (.lst (set_own (set_own ?_ (wi_out wv (by omega))) (wi_out wv (by omega)))
        (.bool (.bool (.int (.lst (set_own (set_own ?_ (wi_out wy (by omega))) (wi_out wy (by omega)))
        (.lst (set_own (set_own (hkp.own (own_pre (A := [_, _]) (A' := [_, _]) (B := (τ1 ++ (τ2 ++ (τ3 ++ [_, _]))) ++ τ4) o4 W4 (List.append_assoc ..) rfl (by simp) (by simp) (by simp only [List.length_append, List.length_cons, List.length_nil]; omega))) (wi_out w4 (by omega))) (wi_out w4 (by omega)))
        (.lst (set_own (set_own ho (wi_out hw (by omega))) (wi_out hw (by omega)))
        (.int .nil0)))))))))))))))))
      · have := own_rows (σ := s) (id := σ.length + (τ1.length + (τ2.length + (τ3.length + 2)))) (n := 1) (by omega) (str_flat r.Wishes) (by
          have := hkp (σ.length + (τ1.length + (τ2.length + (τ3.length + 2)))) (by simp; omega)
          simp -implicitDefEqProofs only [S0, S1, S2, S3, S4, S5, S6, S7, S8, S9, S10, S11, S12, S13, S14, S15, opv, opvs, eget, env0, setD, lenStr, lenSl, isNilP, isNilS, putAt, if_true, if_false, reduceCtorEq, Nat.reduceLeDiff, Nat.reduceEqDiff, Nat.reduceSub, Nat.reduceMul, Nat.reduceAdd] at this
          exact this)
        simpa using this
      · have := own_rows (σ := s) (id := σ.length + (τ1.length + (τ2.length + (τ3.length + 3)))) (n := 1) (by omega) (int_flat r.Yes) (by
          have := hkp (σ.length + (τ1.length + (τ2.length + (τ3.length + 3)))) (by simp; omega)
          simp -implicitDefEqProofs only [S0, S1, S2, S3, S4, S5, S6, S7, S8, S9, S10, S11, S12, S13, S14, S15, opv, opvs, eget, env0, setD, lenStr, lenSl, isNilP, isNilS, putAt, if_true, if_false, reduceCtorEq, Nat.reduceLeDiff, Nat.reduceEqDiff, Nat.reduceSub, Nat.reduceMul, Nat.reduceAdd] at this
          exact this)
        simpa using this
    · simp only [List.length_set]
      exact wi_join w1 (wi_join (d' := s.length) w2 (wi_join (d' := s.length) w3 (wi_join (d' := s.length) wv (wi_join (d' := s.length) wy (wi_join (d' := s.length) w4 (wi_last hw (Nat.le_refl _) (Nat.le_refl _)) (by omega) (Nat.le_refl _) (by omega) (by omega) (by omega)) (by omega) (Nat.le_refl _) (by omega) (by omega) (by omega)) (by omega) (Nat.le_refl _) (by omega) (by omega) (by omega)) (by omega) (Nat.le_refl _) (by omega) (by omega) (by omega)) (by omega) (Nat.le_refl _) (by omega) (by omega) (by omega)) (by omega) (by omega) (by omega) (by omega) (by omega)
end Go.Proofs.Ytleilaipdhmgeaa.W

end
