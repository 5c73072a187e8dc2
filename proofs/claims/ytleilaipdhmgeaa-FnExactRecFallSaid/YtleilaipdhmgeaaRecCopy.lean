/- Copies that the reference and the program make. Conditions: none. -/
import Derived.Test.YtleilaipdhmgeaaRecValid
import Derived.Test.YtleilaipdhmgeaaRecSlots
import Derived.KernelRfl
set_option linter.unusedSimpArgs false
set_option linter.unusedVariables false
set_option linter.defProp false
open Go Go.Ab
set_option maxHeartbeats 2000000
namespace Go.Proofs.Ytleilaipdhmgeaa.W
def c_spec_l21Disk : C := (.seq (.ops [⟨(some 1), none, (.box (.t 0))⟩, ⟨(some 2), none, (.new [(.t (.int .i64 0)), (.t (.int .i64 0)), .nils])⟩]) (.seq (.ops [⟨(some 3), none, (.fieldAddr 2 (.t 1))⟩, ⟨(some 4), none, (.load none (.t 3))⟩, ⟨(some 5), none, (.call (.c (.fn (.func 82) [])) [(.t 4)])⟩, ⟨(some 6), none, (.fieldAddr 2 (.t 1))⟩, ⟨none, none, (.store 1 (.t 6) (.t 5))⟩]) (.seq (.ops [⟨(some 7), none, (.load (some 3) (.t 1))⟩, ⟨none, none, (.store 3 (.t 2) (.t 7))⟩]) .ret)))
theorem k_spec_l21Disk : comp Try.prog 8 (Try.f126.body.getD .skip) = some c_spec_l21Disk := by kernel_rfl

def c_impl_cloneDisk : C := (.seq (.ops [⟨(some 1), none, (.box (.t 0))⟩, ⟨(some 2), none, (.new [(.t (.int .i64 0)), (.t (.int .i64 0)), .nils])⟩]) (.seq (.ops [⟨(some 3), none, (.fieldAddr 2 (.t 1))⟩, ⟨(some 4), none, (.load none (.t 3))⟩, ⟨(some 5), none, (.call (.c (.fn (.func 155) [])) [(.t 4)])⟩, ⟨(some 6), none, (.fieldAddr 2 (.t 1))⟩, ⟨none, none, (.store 1 (.t 6) (.t 5))⟩]) (.seq (.ops [⟨(some 7), none, (.load (some 3) (.t 1))⟩, ⟨none, none, (.store 3 (.t 2) (.t 7))⟩]) .ret)))
theorem k_impl_cloneDisk : comp Try.prog 8 (Try.f153.body.getD .skip) = some c_impl_cloneDisk := by kernel_rfl

theorem spec_l21Slots (l : List RecSlot) (hl : l.length ≤ 1048576) (σ : Store) : ACalls Try.prog 82 [.t (tRecSlotS l)] σ (ToR (tRecSlotS l) σ) :=
  (spec_l21Slots' l hl σ).mono fun r σ' h => h.toR (by omega) (slot_flat l)
theorem impl_cloneSlots (l : List RecSlot) (hl : l.length ≤ 1048576) (σ : Store) : ACalls Try.prog 155 [.t (tRecSlotS l)] σ (ToR (tRecSlotS l) σ) :=
  (impl_cloneSlots' l hl σ).mono fun r σ' h => h.toR (by omega) (slot_flat l)
theorem spec_l21Disk (d : RecDisk) (hd : d.Ok) (σ : Store) : ACalls Try.prog 126 [.agg d.vs] σ (ToLR d.ts σ) := by
  refine acalls_of Try.func126 (by decide +kernel) (code := Try.f126.body.getD .skip) (n := 8) (c := c_spec_l21Disk) (rs := [(.cell 2 (some 3))]) rfl rfl k_spec_l21Disk (by kernel_rfl) (by simp) (fun hσ => ?_)
  simp -implicitDefEqProofs only [c_spec_l21Disk, RecDisk.vs, S0, S1, S2, S3, S4, S5, S6, S7, S8, S9, S10, S11, S12, S13, S14, S15, opv, opvs, eget, env0, setD, lenStr, lenSl, isNilP, isNilS, putAt, if_true, if_false, reduceCtorEq, Nat.reduceLeDiff, Nat.reduceEqDiff, Nat.reduceSub, Nat.reduceMul, Nat.reduceAdd]
  refine call_by (by rw [List.append_nil]; exact spec_l21Slots d.Slots hd.Slots.1 _) ?_
  rintro u σ' ⟨τ, is, rfl, ho, hw⟩
  have e := ho.one
  simp -implicitDefEqProofs only [one_cells e, e, S0, S1, S2, S3, S4, S5, S6, S7, S8, S9, S10, S11, S12, S13, S14, S15, opv, opvs, eget, env0, setD, lenStr, lenSl, isNilP, isNilS, putAt, if_true, if_false, reduceCtorEq, Nat.reduceLeDiff, Nat.reduceEqDiff, Nat.reduceSub, Nat.reduceMul, Nat.reduceAdd]
  refine fin_keep (by simp) ⟨_, _, is ++ [], rfl, rfl, .int (.int (.lst (own_pre (A := [_, _]) (A' := [_, _]) (B := τ) (B' := τ) ho hw (List.append_assoc ..) rfl rfl (by simp) (by simp)) .nil0)), ?_⟩
  simp only [List.length_append, List.length_cons, List.length_nil] at hw ⊢
  exact wi_last hw (by omega) (by omega)
theorem impl_cloneDisk (d : RecDisk) (hd : d.Ok) (σ : Store) : ACalls Try.prog 153 [.agg d.vs] σ (ToLR d.ts σ) := by
  refine acalls_of Try.func153 (by decide +kernel) (code := Try.f153.body.getD .skip) (n := 8) (c := c_impl_cloneDisk) (rs := [(.cell 2 (some 3))]) rfl rfl k_impl_cloneDisk (by kernel_rfl) (by simp) (fun hσ => ?_)
  simp -implicitDefEqProofs only [c_impl_cloneDisk, RecDisk.vs, S0, S1, S2, S3, S4, S5, S6, S7, S8, S9, S10, S11, S12, S13, S14, S15, opv, opvs, eget, env0, setD, lenStr, lenSl, isNilP, isNilS, putAt, if_true, if_false, reduceCtorEq, Nat.reduceLeDiff, Nat.reduceEqDiff, Nat.reduceSub, Nat.reduceMul, Nat.reduceAdd]
  refine call_by (by rw [List.append_nil]; exact impl_cloneSlots d.Slots hd.Slots.1 _) ?_
  rintro u σ' ⟨τ, is, rfl, ho, hw⟩
  have e := ho.one
  simp -implicitDefEqProofs only [one_cells e, e, S0, S1, S2, S3, S4, S5, S6, S7, S8, S9, S10, S11, S12, S13, S14, S15, opv, opvs, eget, env0, setD, lenStr, lenSl, isNilP, isNilS, putAt, if_true, if_false, reduceCtorEq, Nat.reduceLeDiff, Nat.reduceEqDiff, Nat.reduceSub, Nat.reduceMul, Nat.reduceAdd]
  refine fin_keep (by simp) ⟨_, _, is ++ [], rfl, rfl, .int (.int (.lst (own_pre (A := [_, _]) (A' := [_, _]) (B := τ) (B' := τ) ho hw (List.append_assoc ..) rfl rfl (by simp) (by simp)) .nil0)), ?_⟩
  simp only [List.length_append, List.length_cons, List.length_nil] at hw ⊢
  exact wi_last hw (by omega) (by omega)
def c_spec_l22Message : C := (.seq (.ops [⟨(some 1), none, (.box (.t 0))⟩, ⟨(some 2), none, (.new [(.t (.int .i64 0)), (.t (.int .i64 0)), (.t (.int .i64 0)), (.t (.int .i64 0)), (.t (.int .i64 0)), (.t (.int .i64 0)), (.t (.str [])), .nils])⟩]) (.seq (.ops [⟨(some 3), none, (.fieldAddr 7 (.t 1))⟩, ⟨(some 4), none, (.load none (.t 3))⟩, ⟨(some 5), none, (.call (.c (.fn (.func 82) [])) [(.t 4)])⟩, ⟨(some 6), none, (.fieldAddr 7 (.t 1))⟩, ⟨none, none, (.store 1 (.t 6) (.t 5))⟩]) (.seq (.ops [⟨(some 7), none, (.load (some 8) (.t 1))⟩, ⟨none, none, (.store 8 (.t 2) (.t 7))⟩]) .ret)))
theorem k_spec_l22Message : comp Try.prog 8 (Try.f166.body.getD .skip) = some c_spec_l22Message := by kernel_rfl

def c_spec_l22Messages : C := (.seq (.ops [⟨(some 2), none, (.mv (.c .nils))⟩]) (.seq (.ops [⟨(some 5), none, (.lit none 8 0 [(.t (.int .i64 0)), (.t (.int .i64 0)), (.t (.int .i64 0)), (.t (.int .i64 0)), (.t (.int .i64 0)), (.t (.int .i64 0)), (.t (.str [])), .nils] [])⟩, ⟨(some 3), none, (.mv (.t 5))⟩]) (.seq (.seq (.ops [⟨(some 4), none, (.mv (.c (.t (.int .i64 0))))⟩]) (.block 0 (.loop (.seq (.seq (.ops [⟨(some 6), none, (.mv (.t 4))⟩, ⟨(some 7), none, (.mv (.t 0))⟩, ⟨(some 8), none, (.len false (.t 7))⟩, ⟨(some 9), none, (.bin .lss (.t 6) (.t 8))⟩]) (.cond (.t 9) .skip (.exit 0))) (.seq (.block 1 (.ops [⟨(some 12), none, (.mv (.t 3))⟩, ⟨(some 13), none, (.mv (.t 0))⟩, ⟨(some 14), none, (.mv (.t 4))⟩, ⟨(some 15), none, (.indexAddr 8 (.t 13) (.t 14))⟩, ⟨(some 16), none, (.load (some 8) (.t 15))⟩, ⟨(some 17), none, (.call (.c (.fn (.func 166) [])) [(.t 16)])⟩, ⟨(some 18), none, (.lit none 8 1 [(.t (.int .i64 0)), (.t (.int .i64 0)), (.t (.int .i64 0)), (.t (.int .i64 0)), (.t (.int .i64 0)), (.t (.int .i64 0)), (.t (.str [])), .nils] [⟨0, (.t 17)⟩])⟩, ⟨(some 19), none, (.append 8 88 (.t 12) (.t 18))⟩, ⟨(some 3), none, (.mv (.t 19))⟩])) (.ops [⟨(some 10), none, (.mv (.t 4))⟩, ⟨(some 11), none, (.bin .add (.t 10) (.c (.t (.int .i64 1))))⟩, ⟨(some 4), none, (.mv (.t 11))⟩])))))) (.seq (.ops [⟨(some 20), none, (.mv (.t 3))⟩, ⟨(some 2), none, (.mv (.t 20))⟩]) .ret))))
theorem k_spec_l22Messages : comp Try.prog 21 (Try.f157.body.getD .skip) = some c_spec_l22Messages := by kernel_rfl

theorem spec_l22Message (m : RecMessage) (hm : m.Ok) (σ : Store) : ACalls Try.prog 166 [.agg m.vs] σ (ToLR m.ts σ) := by
  refine acalls_of Try.func166 (by decide +kernel) (code := Try.f166.body.getD .skip) (n := 8) (c := c_spec_l22Message) (rs := [(.cell 2 (some 8))]) rfl rfl k_spec_l22Message (by kernel_rfl) (by simp) (fun hσ => ?_)
  simp -implicitDefEqProofs only [c_spec_l22Message, RecMessage.vs, S0, S1, S2, S3, S4, S5, S6, S7, S8, S9, S10, S11, S12, S13, S14, S15, opv, opvs, eget, env0, setD, lenStr, lenSl, isNilP, isNilS, putAt, if_true, if_false, reduceCtorEq, Nat.reduceLeDiff, Nat.reduceEqDiff, Nat.reduceSub, Nat.reduceMul, Nat.reduceAdd]
  refine call_by (by rw [List.append_nil]; exact spec_l21Slots m.Slots hm.Slots.1 _) ?_
  rintro u σ' ⟨τ, is, rfl, ho, hw⟩
  have e := ho.one
  simp -implicitDefEqProofs only [one_cells e, e, S0, S1, S2, S3, S4, S5, S6, S7, S8, S9, S10, S11, S12, S13, S14, S15, opv, opvs, eget, env0, setD, lenStr, lenSl, isNilP, isNilS, putAt, if_true, if_false, reduceCtorEq, Nat.reduceLeDiff, Nat.reduceEqDiff, Nat.reduceSub, Nat.reduceMul, Nat.reduceAdd]
  refine fin_keep (by simp) ⟨_, _, is ++ [], rfl, rfl, .int (.int (.int (.int (.int (.int (.str (.lst (own_pre (A := [_, _]) (A' := [_, _]) (B := τ) (B' := τ) ho hw (List.append_assoc ..) rfl rfl (by simp) (by simp)) .nil0))))))), ?_⟩
  simp only [List.length_append, List.length_cons, List.length_nil] at hw ⊢
  exact wi_last hw (by omega) (by omega)
theorem spec_l22Messages (l : List RecMessage) (hl : RecMessage.OkS l) (σ : Store) : ACalls Try.prog 157 [.t (tRecMessageS l)] σ (ToR (tRecMessageS l) σ) := by
  refine acalls_of Try.func157 (by decide +kernel) (code := Try.f157.body.getD .skip) (n := 21) (c := c_spec_l22Messages) (rs := [(.tmp 2)]) rfl rfl k_spec_l22Messages (by kernel_rfl) (by simp) (fun hσ => ?_)
  have hl1 := hl.1
  simp -implicitDefEqProofs only [c_spec_l22Messages, tRecMessageS, S0, S1, S2, S3, S4, S5, S6, S7, S8, S9, S10, S11, S12, S13, S14, S15, opv, opvs, eget, env0, setD, lenStr, lenSl, isNilP, isNilS, putAt, if_true, if_false, reduceCtorEq, Nat.reduceLeDiff, Nat.reduceEqDiff, Nat.reduceSub, Nat.reduceMul, Nat.reduceAdd]
  refine lit_own ?_
  simp -implicitDefEqProofs only [S0, S1, S2, S3, S4, S5, S6, S7, S8, S9, S10, S11, S12, S13, S14, S15, opv, opvs, eget, env0, setD, lenStr, lenSl, isNilP, isNilS, putAt, if_true, if_false, reduceCtorEq, Nat.reduceLeDiff, Nat.reduceEqDiff, Nat.reduceSub, Nat.reduceMul, Nat.reduceAdd]
  refine loop_g [3, 4, 0] [0] (fun x : Nat × List (List V) × Store × List Nat => [(3, .sl σ.length x.1 0 x.1), (4, .t (.int .i64 (x.1 : Nat)))]) (fun x => σ ++ .slc 8 x.2.1 :: x.2.2.1)
    (fun x => x.1 ≤ l.length ∧ x.2.1.length = x.1 ∧ OwnR (σ ++ .slc 8 x.2.1 :: x.2.2.1) ((l.map RecMessage.ts).take x.1) x.2.1 x.2.2.2 ∧ Wi x.2.2.2 (σ.length + 1) (σ ++ .slc 8 x.2.1 :: x.2.2.1).length) (fun x => l.length - x.1) (0, [], [], []) (by simp) ⟨Nat.zero_le _, rfl, by simp [OwnR], Wi.nil⟩ rfl rfl ?_
  rintro ⟨k, R, τ, is⟩ ⟨hk, hR, ho, hw⟩
  simp only at hk hR ho hw
  simp -implicitDefEqProofs only [keep, List.length_map, S0, S1, S2, S3, S4, S5, S6, S7, S8, S9, S10, S11, S12, S13, S14, S15, opv, opvs, eget, env0, setD, lenStr, lenSl, isNilP, isNilS, putAt, if_true, if_false, reduceCtorEq, Nat.reduceLeDiff, Nat.reduceEqDiff, Nat.reduceSub, Nat.reduceMul, Nat.reduceAdd]
  refine cond_split (fun h1 => ?_) (fun h1 => ?_)
  · obtain ⟨x, hx, hlt⟩ := at_of h1
    have hx' : (l.map RecMessage.ts)[k]? = some x.ts := by rw [List.getElem?_map, hx]; rfl
    simp -implicitDefEqProofs only [hx, nat_nn, List.getElem?_map, Option.map_some, RecMessage.ts, S0, S1, S2, S3, S4, S5, S6, S7, S8, S9, S10, S11, S12, S13, S14, S15, opv, opvs, eget, env0, setD, lenStr, lenSl, isNilP, isNilS, putAt, if_true, if_false, reduceCtorEq, Nat.reduceLeDiff, Nat.reduceEqDiff, Nat.reduceSub, Nat.reduceMul, Nat.reduceAdd]
    refine call_by (by rw [List.append_nil]; exact spec_l22Message x (hl.2 x (mem_at hx)) _) ?_
    rintro v σ' ⟨us, τ', js, rfl, rfl, hu, hv⟩
    have hul : us.length = 8 := hu.len
    have c1 : 0 < 1 := by omega
    have b1 : (k + 1) * 88 ≤ maxBy := by simp only [maxBy]; omega
    have b2 : k ≤ 9223372036854775806 := by omega
    have hrow : (([us] : List (List V)).all fun r => r.all one) = true := by simp [hu.ones]
    simp -implicitDefEqProofs only [hul, hu.ones, c1, S0, S1, S2, S3, S4, S5, S6, S7, S8, S9, S10, S11, S12, S13, S14, S15, opv, opvs, eget, env0, setD, lenStr, lenSl, isNilP, isNilS, putAt, if_true, if_false, reduceCtorEq, Nat.reduceLeDiff, Nat.reduceEqDiff, Nat.reduceSub, Nat.reduceMul, Nat.reduceAdd]
    refine lit_rows ?_
    simp -implicitDefEqProofs only [q_rows_r _ _ hrow, hR, b1, b2, i64_succ (show k < 4611686018427387904 by omega), S0, S1, S2, S3, S4, S5, S6, S7, S8, S9, S10, S11, S12, S13, S14, S15, opv, opvs, eget, env0, setD, lenStr, lenSl, isNilP, isNilS, putAt, if_true, if_false, reduceCtorEq, Nat.reduceLeDiff, Nat.reduceEqDiff, Nat.reduceSub, Nat.reduceMul, Nat.reduceAdd]
    obtain ⟨g1, g2⟩ := own_grow (o' := .slc 8 (R ++ [us])) hx' ho hw (by simpa using hu) (by simpa using hv)
    exact lk_g (k + 1, R ++ [us], τ ++ τ', is ++ js) (by simp only; omega) ⟨by simp only; omega, by simp [hR], g1, by simp only [List.length_append, List.length_cons] at g2 ⊢; exact g2.mono (Nat.le_refl _) (by omega)⟩ (by simp) rfl rfl
  · have hkk := end_of h1 hk
    subst hkk
    simp -implicitDefEqProofs only [S0, S1, S2, S3, S4, S5, S6, S7, S8, S9, S10, S11, S12, S13, S14, S15, opv, opvs, eget, env0, setD, lenStr, lenSl, isNilP, isNilS, putAt, if_true, if_false, reduceCtorEq, Nat.reduceLeDiff, Nat.reduceEqDiff, Nat.reduceSub, Nat.reduceMul, Nat.reduceAdd]
    refine fin_keep (by simp) ⟨_, σ.length :: is, rfl, ?_, Wi.cons hw (by omega) (by omega) (by simp)⟩
    rw [List.take_of_length_le (by simp)] at ho
    simp only [mkRes, Own]
    exact ⟨by omega, .inr ⟨σ.length, is, R, rfl, by rw [hR], by simp, ho⟩⟩
end Go.Proofs.Ytleilaipdhmgeaa.W
