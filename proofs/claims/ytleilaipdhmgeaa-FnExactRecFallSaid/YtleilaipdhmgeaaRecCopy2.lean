/- The program's copies of messages. Conditions: none. -/
import Derived.Test.YtleilaipdhmgeaaRecCopy
set_option linter.unusedSimpArgs false
set_option linter.unusedVariables false
set_option linter.defProp false
open Go Go.Ab
set_option maxHeartbeats 2000000
namespace Go.Proofs.Ytleilaipdhmgeaa.W
def c_impl_cloneMessages : C := (.seq (.ops [⟨(some 2), none, (.mv (.c .nils))⟩]) (.seq (.ops [⟨(some 3), none, (.mv (.c .nils))⟩]) (.seq (.seq (.ops [⟨(some 6), none, (.mv (.t 0))⟩, ⟨(some 7), none, (.len false (.t 6))⟩, ⟨(some 8), none, (.mv (.c (.t (.int .i64 0))))⟩]) (.block 0 (.loop (.seq (.ops [⟨(some 9), none, (.bin .lss (.t 8) (.t 7))⟩]) (.seq (.cond (.t 9) .skip (.exit 0)) (.seq (.block 1 (.seq (.ops [⟨(some 10), none, (.indexAddr 8 (.t 6) (.t 8))⟩, ⟨(some 11), none, (.load (some 8) (.t 10))⟩, ⟨(some 5), none, (.new [(.t (.int .i64 0)), (.t (.int .i64 0)), (.t (.int .i64 0)), (.t (.int .i64 0)), (.t (.int .i64 0)), (.t (.int .i64 0)), (.t (.str [])), .nils])⟩, ⟨none, none, (.store 8 (.t 5) (.t 11))⟩]) (.seq (.ops [⟨(some 12), none, (.fieldAddr 7 (.t 5))⟩, ⟨(some 13), none, (.load none (.t 12))⟩, ⟨(some 14), none, (.call (.c (.fn (.func 155) [])) [(.t 13)])⟩, ⟨(some 15), none, (.fieldAddr 7 (.t 5))⟩, ⟨none, none, (.store 1 (.t 15) (.t 14))⟩]) (.ops [⟨(some 16), none, (.mv (.t 3))⟩, ⟨(some 17), none, (.load (some 8) (.t 5))⟩, ⟨(some 18), none, (.lit none 8 1 [(.t (.int .i64 0)), (.t (.int .i64 0)), (.t (.int .i64 0)), (.t (.int .i64 0)), (.t (.int .i64 0)), (.t (.int .i64 0)), (.t (.str [])), .nils] [⟨0, (.t 17)⟩])⟩, ⟨(some 19), none, (.append 8 88 (.t 16) (.t 18))⟩, ⟨(some 3), none, (.mv (.t 19))⟩])))) (.ops [⟨(some 20), none, (.bin .add (.t 8) (.c (.t (.int .i64 1))))⟩, ⟨(some 8), none, (.mv (.t 20))⟩]))))))) (.seq (.ops [⟨(some 21), none, (.mv (.t 3))⟩, ⟨(some 2), none, (.mv (.t 21))⟩]) .ret))))
theorem k_impl_cloneMessages : comp Try.prog 22 (Try.f154.body.getD .skip) = some c_impl_cloneMessages := by kernel_rfl

structure Gc where
  A : Store
  R : List (List V)
  τ : Store
  is : List Nat
def cv (σ : Store) (g : Gc) : Nat → V
  | 0 => .nils
  | k + 1 => .sl (σ.length + g.A.length) (k + 1) 0 (k + 1)
def cst (σ : Store) (n : Nat) (g : Gc) : Nat → Store
  | 0 => σ
  | k + 1 => σ ++ (g.A ++ .slc n g.R :: g.τ)
def cI (σ : Store) (n : Nat) (rows : List (List T)) (g : Gc) : Nat → Prop
  | 0 => True
  | k + 1 => k + 1 ≤ rows.length ∧ g.R.length = k + 1 ∧ OwnR ((σ ++ g.A) ++ .slc n g.R :: g.τ) (rows.take (k + 1)) g.R g.is ∧ Wj g.is σ.length (σ ++ g.A).length ((σ ++ g.A) ++ .slc n g.R :: g.τ).length
theorem impl_cloneMessages (l : List RecMessage) (hl : RecMessage.OkS l) (σ : Store) : ACalls Try.prog 154 [.t (tRecMessageS l)] σ (ToR (tRecMessageS l) σ) := by
  refine acalls_of Try.func154 (by decide +kernel) (code := Try.f154.body.getD .skip) (n := 22) (c := c_impl_cloneMessages) (rs := [(.tmp 2)]) rfl rfl k_impl_cloneMessages (by kernel_rfl) (by simp) (fun hσ => ?_)
  have hl1 := hl.1
  simp -implicitDefEqProofs only [c_impl_cloneMessages, tRecMessageS, List.length_map, S0, S1, S2, S3, S4, S5, S6, S7, S8, S9, S10, S11, S12, S13, S14, S15, opv, opvs, eget, env0, setD, lenStr, lenSl, isNilP, isNilS, putAt, if_true, if_false, reduceCtorEq, Nat.reduceLeDiff, Nat.reduceEqDiff, Nat.reduceSub, Nat.reduceMul, Nat.reduceAdd]
  refine loop_g [3, 8, 6, 7] [6, 7] (fun x : Nat × Gc => [(3, cv σ x.2 x.1), (8, .t (.int .i64 (x.1 : Nat)))]) (fun x => cst σ 8 x.2 x.1) (fun x => cI σ 8 (l.map RecMessage.ts) x.2 x.1 ∧ x.1 ≤ l.length) (fun x => l.length - x.1) (0, ⟨[], [], [], []⟩) (Nat.le_refl _) ⟨trivial, Nat.zero_le _⟩ rfl rfl ?_
  rintro ⟨k, g⟩ ⟨hI, hk⟩
  simp only at hI hk
  have bl : σ.length ≤ (cst σ 8 g k).length := by cases k <;> simp [cst]
  simp -implicitDefEqProofs only [keep, S0, S1, S2, S3, S4, S5, S6, S7, S8, S9, S10, S11, S12, S13, S14, S15, opv, opvs, eget, env0, setD, lenStr, lenSl, isNilP, isNilS, putAt, if_true, if_false, reduceCtorEq, Nat.reduceLeDiff, Nat.reduceEqDiff, Nat.reduceSub, Nat.reduceMul, Nat.reduceAdd]
  refine cond_split (fun h1 => ?_) (fun h1 => ?_)
  · obtain ⟨x, hx, hlt⟩ := at_of h1
    have hx' : (l.map RecMessage.ts)[k]? = some x.ts := by rw [List.getElem?_map, hx]; rfl
    have hok := hl.2 x (mem_at hx)
    have more := i64_succ (show k < 4611686018427387904 by omega)
    have c1 : 0 < 1 := by omega
    rcases k with _ | k
    · simp -implicitDefEqProofs only [cv, cst, hx, nat_nn, List.getElem?_map, Option.map_some, RecMessage.ts, S0, S1, S2, S3, S4, S5, S6, S7, S8, S9, S10, S11, S12, S13, S14, S15, opv, opvs, eget, env0, setD, lenStr, lenSl, isNilP, isNilS, putAt, if_true, if_false, reduceCtorEq, Nat.reduceLeDiff, Nat.reduceEqDiff, Nat.reduceSub, Nat.reduceMul, Nat.reduceAdd]
      refine call_by (by rw [List.append_nil]; exact impl_cloneSlots x.Slots hok.Slots.1 _) ?_
      rintro u σ' ⟨τ, is, rfl, ho, hw⟩
      have e := ho.one
      have b1 : 1 * 88 ≤ maxBy := by simp only [maxBy]; omega
      have b1' : 88 ≤ maxBy := by simp only [maxBy]; omega
      have b3 : 1 ≤ 9223372036854775807 := by omega
      simp -implicitDefEqProofs only [one_cells e, e, c1, S0, S1, S2, S3, S4, S5, S6, S7, S8, S9, S10, S11, S12, S13, S14, S15, opv, opvs, eget, env0, setD, lenStr, lenSl, isNilP, isNilS, putAt, if_true, if_false, reduceCtorEq, Nat.reduceLeDiff, Nat.reduceEqDiff, Nat.reduceSub, Nat.reduceMul, Nat.reduceAdd]
      refine lit_rows ?_
      have hrow : ((([[V.t (T.int .i64 x.Kind), .t (.int .i64 x.From), .t (.int .i64 x.To), .t (.int .i64 x.Ballot), .t (.int .i64 x.Index), .t (.int .i64 x.Known), .t (.str x.Text), u]] : List (List V)).all fun r => r.all one) = true) := by simp only [List.all_cons, List.all_nil, q_one_t, e, Bool.and_self, Bool.and_true]
      simp -implicitDefEqProofs only [q_rows_r _ _ hrow, b1, b1', b3, more, S0, S1, S2, S3, S4, S5, S6, S7, S8, S9, S10, S11, S12, S13, S14, S15, opv, opvs, eget, env0, setD, lenStr, lenSl, isNilP, isNilS, putAt, if_true, if_false, reduceCtorEq, Nat.reduceLeDiff, Nat.reduceEqDiff, Nat.reduceSub, Nat.reduceMul, Nat.reduceAdd]
      have hO := fun (o : Go.Ab.Obj) (o2 : Go.Ab.Obj) => (OwnL.int (OwnL.int (OwnL.int (OwnL.int (OwnL.int (OwnL.int (OwnL.str (OwnL.lst (own_pre (F := (σ ++ (o :: τ)) ++ [o2]) (A := [_]) (A' := [o]) (B := τ) (B' := τ ++ [o2]) ho hw (List.append_assoc ..) (by simp) rfl (by simp) (by simp)) OwnL.nil0))))))) : OwnL ((σ ++ (o :: τ)) ++ [o2]) x.ts [.t (.int .i64 x.Kind), .t (.int .i64 x.From), .t (.int .i64 x.To), .t (.int .i64 x.Ballot), .t (.int .i64 x.Index), .t (.int .i64 x.Known), .t (.str x.Text), u] (is ++ []))
      refine lk_g (1, ⟨.box [.t (.int .i64 x.Kind), .t (.int .i64 x.From), .t (.int .i64 x.To), .t (.int .i64 x.Ballot), .t (.int .i64 x.Index), .t (.int .i64 x.Known), .t (.str x.Text), u] :: τ, [[.t (.int .i64 x.Kind), .t (.int .i64 x.From), .t (.int .i64 x.To), .t (.int .i64 x.Ballot), .t (.int .i64 x.Index), .t (.int .i64 x.Known), .t (.str x.Text), u]], [], is ++ []⟩) (by simp only; omega) ⟨?_, by simp only; omega⟩ (by simp) (by simp) ?_
      · simp only [cI]
        refine ⟨by simp; omega, rfl, ?_, ?_⟩
        · rw [take_of hx', List.take_zero, List.nil_append]
          exact OwnR.one (hO _ _)
        · refine ⟨by rw [List.append_nil]; exact hw.1, fun i hi => ?_⟩
          rw [List.append_nil] at hi
          have := hw.2 i hi
          simp only [List.length_append, List.length_cons, List.length_nil] at this ⊢
          omega
      · simp [keep, eget, Nat.add_comm]
    · simp only [cI] at hI
      obtain ⟨i1, i2, i3, i4⟩ := hI
      simp -implicitDefEqProofs only [cv, cst, hx, nat_nn, List.getElem?_map, Option.map_some, RecMessage.ts, S0, S1, S2, S3, S4, S5, S6, S7, S8, S9, S10, S11, S12, S13, S14, S15, opv, opvs, eget, env0, setD, lenStr, lenSl, isNilP, isNilS, putAt, if_true, if_false, reduceCtorEq, Nat.reduceLeDiff, Nat.reduceEqDiff, Nat.reduceSub, Nat.reduceMul, Nat.reduceAdd]
      refine call_by (by rw [List.append_nil]; exact impl_cloneSlots x.Slots hok.Slots.1 _) ?_
      rintro u σ' ⟨τ, is, rfl, ho, hw⟩
      have e := ho.one
      have b1 : (k + 1 + 1) * 88 ≤ maxBy := by simp only [maxBy]; omega
      have b1' : (k + 2) * 88 ≤ maxBy := by simp only [maxBy]; omega
      have b2 : k ≤ 9223372036854775805 := by omega
      simp -implicitDefEqProofs only [one_cells e, e, c1, S0, S1, S2, S3, S4, S5, S6, S7, S8, S9, S10, S11, S12, S13, S14, S15, opv, opvs, eget, env0, setD, lenStr, lenSl, isNilP, isNilS, putAt, if_true, if_false, reduceCtorEq, Nat.reduceLeDiff, Nat.reduceEqDiff, Nat.reduceSub, Nat.reduceMul, Nat.reduceAdd]
      refine lit_rows ?_
      have hrow : ((([[V.t (.int .i64 x.Kind), V.t (.int .i64 x.From), V.t (.int .i64 x.To), V.t (.int .i64 x.Ballot), V.t (.int .i64 x.Index), V.t (.int .i64 x.Known), V.t (.str x.Text), u]] : List (List V)).all fun r => r.all one) = true) := by simp only [List.all_cons, List.all_nil, q_one_t, e, Bool.and_self, Bool.and_true]
      simp -implicitDefEqProofs only [q_rows_r _ _ hrow, i2, b1, b1', b2, more, S0, S1, S2, S3, S4, S5, S6, S7, S8, S9, S10, S11, S12, S13, S14, S15, opv, opvs, eget, env0, setD, lenStr, lenSl, isNilP, isNilS, putAt, if_true, if_false, reduceCtorEq, Nat.reduceLeDiff, Nat.reduceEqDiff, Nat.reduceSub, Nat.reduceMul, Nat.reduceAdd]
      have hO : OwnL ((σ ++ g.A) ++ .slc 8 g.R :: (g.τ ++ (.box [.t (.int .i64 x.Kind), .t (.int .i64 x.From), .t (.int .i64 x.To), .t (.int .i64 x.Ballot), .t (.int .i64 x.Index), .t (.int .i64 x.Known), .t (.str x.Text), u] :: τ))) x.ts [.t (.int .i64 x.Kind), .t (.int .i64 x.From), .t (.int .i64 x.To), .t (.int .i64 x.Ballot), .t (.int .i64 x.Index), .t (.int .i64 x.Known), .t (.str x.Text), u] (is ++ []) :=
        (OwnL.int (OwnL.int (OwnL.int (OwnL.int (OwnL.int (OwnL.int (OwnL.str (OwnL.lst (own_pre (σ := σ ++ (g.A ++ .slc 8 g.R :: g.τ)) (A := [.box [.t (.int .i64 x.Kind), .t (.int .i64 x.From), .t (.int .i64 x.To), .t (.int .i64 x.Ballot), .t (.int .i64 x.Index), .t (.int .i64 x.Known), .t (.str x.Text), .t (.lst 2 (x.Slots.map RecSlot.ts))]]) (A' := [.box [.t (.int .i64 x.Kind), .t (.int .i64 x.From), .t (.int .i64 x.To), .t (.int .i64 x.Ballot), .t (.int .i64 x.Index), .t (.int .i64 x.Known), .t (.str x.Text), u]]) (B := τ) (B' := τ) ho hw (by simp) (by simp) rfl (List.prefix_refl _) (by simp; omega)) OwnL.nil0))))))))
      obtain ⟨g1, g2⟩ := own_grow2 (o' := .slc 8 (g.R ++ [[.t (.int .i64 x.Kind), .t (.int .i64 x.From), .t (.int .i64 x.To), .t (.int .i64 x.Ballot), .t (.int .i64 x.Index), .t (.int .i64 x.Known), .t (.str x.Text), u]])) (a := σ.length) (by simp) hx' i3 i4 hO (by
        rw [List.append_nil]
        simp only [List.length_append, List.length_cons, List.length_nil] at hw ⊢
        exact hw.mono (by omega) (by omega))
      refine lk_g (k + 2, ⟨g.A, g.R ++ [[.t (.int .i64 x.Kind), .t (.int .i64 x.From), .t (.int .i64 x.To), .t (.int .i64 x.Ballot), .t (.int .i64 x.Index), .t (.int .i64 x.Known), .t (.str x.Text), u]], g.τ ++ (.box [.t (.int .i64 x.Kind), .t (.int .i64 x.From), .t (.int .i64 x.To), .t (.int .i64 x.Ballot), .t (.int .i64 x.Index), .t (.int .i64 x.Known), .t (.str x.Text), u] :: τ), g.is ++ (is ++ [])⟩) (by simp only; omega) ⟨?_, by simp only; omega⟩ (by simp) (by simp) (by simp [keep, eget])
      simp only [cI]
      exact ⟨by simp; omega, by simp [i2], g1, g2⟩
  · have hkk := end_of h1 hk
    subst hkk
    simp -implicitDefEqProofs only [S0, S1, S2, S3, S4, S5, S6, S7, S8, S9, S10, S11, S12, S13, S14, S15, opv, opvs, eget, env0, setD, lenStr, lenSl, isNilP, isNilS, putAt, if_true, if_false, reduceCtorEq, Nat.reduceLeDiff, Nat.reduceEqDiff, Nat.reduceSub, Nat.reduceMul, Nat.reduceAdd]
    cases hl0 : l with
    | nil =>
      subst hl0
      refine fin_keep bl ⟨[], [], by simp [cst], ?_, Wi.nil⟩
      simp [mkRes, cv, Own]
    | cons a l' =>
      rw [← hl0]
      have hlen : l.length = l'.length + 1 := by rw [hl0]; rfl
      rw [hlen] at hI bl ⊢
      simp only [cI] at hI
      obtain ⟨i1, i2, i3, i4⟩ := hI
      refine fin_keep bl ⟨_, (σ ++ g.A).length :: g.is, by simp only [cst]; rfl, ?_, ?_⟩
      · rw [List.take_of_length_le (by simp; omega)] at i3
        simp only [mkRes, Own]
        refine ⟨by omega, .inr ⟨(σ ++ g.A).length, g.is, g.R, rfl, by simp [cv, i2], by simp [cst], by simpa [cst] using i3⟩⟩
      · exact (i4.cons (by simp) (by simp)).mono (Nat.le_refl _) (by simp [cst])
end Go.Proofs.Ytleilaipdhmgeaa.W
