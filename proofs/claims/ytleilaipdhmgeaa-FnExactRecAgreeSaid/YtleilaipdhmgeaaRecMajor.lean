/- RecMajor of the reference and of the program. Conditions: none. -/
import Derived.Test.YtleilaipdhmgeaaRecWorldOk
import Derived.Test.YtleilaipdhmgeaaAb4
set_option linter.unusedSimpArgs false
set_option linter.unusedVariables false
set_option linter.defProp false
open Go Go.Ab
set_option maxHeartbeats 4000000
namespace Go.Proofs.Ytleilaipdhmgeaa.W
def slotAt (index : Int) (r : Recorder) : Option RecSlot := if 1 ≤ index then r.Safe.Slots[(index - 1).toNat]? else none
abbrev KP := Int × List UInt8
def keyS (s : RecSlot) : KP := (s.Ballot, s.Text)
def kS (p : KP) : V := .agg [.t (.int .i64 p.1), .t (.str p.2)]
def sameAt (index : Int) (p : KP) (e : Recorder) : Bool := decide ((slotAt index e).map keyS = some p)
def cntAt (index : Int) (l : List Recorder) (p : KP) : Nat := l.countP (sameAt index p)
def winP (index : Int) (l : List Recorder) (p : KP) : Bool := !(decide (p.1 = 0)) && decide (2 * cntAt index l p > l.length)
def majOf (index : Int) (l : List Recorder) : List Recorder → List UInt8 × Bool
  | [] => ([], false)
  | r :: m => match slotAt index r with
    | some s => if winP index l (keyS s) = true then (s.Text, true) else majOf index l m
    | none => majOf index l m
def majR (w : RecWorld) (index : Int) : List UInt8 × Bool := majOf index w.Recorders w.Recorders
def majV (p : List UInt8 × Bool) : V := .tup [.t (.str p.1), .t (.bool p.2)]
theorem keyOf_kS : KeyOf kS := fun a b => by
  obtain ⟨a1, a2⟩ := a
  obtain ⟨b1, b2⟩ := b
  simp only [kS, kEq, sEqs, sEq, Bool.and_true]
  by_cases h1 : a1 = b1 <;> by_cases h2 : a2 = b2 <;> simp [h1, h2]
theorem slot_at {index : Int} {r : Recorder} (h : 1 ≤ index) (h2 : index ≤ r.Safe.Slots.length) : ∃ s, slotAt index r = some s ∧ r.Safe.Slots[(index - 1).toNat]? = some s := by
  have : (index - 1).toNat < r.Safe.Slots.length := by omega
  refine ⟨r.Safe.Slots[(index - 1).toNat], ?_, by simp [this]⟩
  unfold slotAt
  rw [if_pos h]
  simp [this]
theorem slot_no {index : Int} {r : Recorder} (h : ¬ (1 ≤ index ∧ index ≤ r.Safe.Slots.length)) : slotAt index r = none := by
  unfold slotAt
  split
  · rw [List.getElem?_eq_none]; omega
  · rfl
def c_spec_l27Major : C := (.seq (.ops [⟨(some 2), none, (.box (.t 0))⟩, ⟨(some 4), none, (.mv (.c (.t (.str []))))⟩, ⟨(some 5), none, (.mv (.c (.t (.bool false))))⟩]) (.seq (.seq (.ops [⟨(some 6), none, (.mv (.c (.t (.int .i64 0))))⟩]) (.block 0 (.loop (.seq (.seq (.ops [⟨(some 11), none, (.mv (.t 6))⟩, ⟨(some 12), none, (.fieldAddr 0 (.t 2))⟩, ⟨(some 13), none, (.load none (.t 12))⟩, ⟨(some 14), none, (.len false (.t 13))⟩, ⟨(some 15), none, (.bin .lss (.t 11) (.t 14))⟩]) (.cond (.t 15) .skip (.exit 0))) (.seq (.block 1 (.seq (.ops [⟨(some 18), none, (.fieldAddr 0 (.t 2))⟩, ⟨(some 19), none, (.load none (.t 18))⟩, ⟨(some 20), none, (.mv (.t 6))⟩, ⟨(some 21), none, (.indexAddr 18 (.t 19) (.t 20))⟩, ⟨(some 22), none, (.fieldAddr 3 (.t 21))⟩, ⟨(some 23), none, (.load (some 3) (.t 22))⟩, ⟨(some 7), none, (.new [(.t (.int .i64 0)), (.t (.int .i64 0)), .nils])⟩, ⟨none, none, (.store 3 (.t 7) (.t 23))⟩]) (.seq (.seq (.ops [⟨(some 24), none, (.mv (.t 1))⟩, ⟨(some 25), none, (.bin .lss (.t 24) (.c (.t (.int .i64 1))))⟩, ⟨(some 26), none, (.mv (.t 25))⟩, ⟨(some 27), (some ⟨26, false⟩), (.mv (.t 1))⟩, ⟨(some 28), (some ⟨26, false⟩), (.fieldAddr 2 (.t 7))⟩, ⟨(some 29), (some ⟨26, false⟩), (.load none (.t 28))⟩, ⟨(some 30), (some ⟨26, false⟩), (.len false (.t 29))⟩, ⟨(some 31), (some ⟨26, false⟩), (.bin .gtr (.t 27) (.t 30))⟩, ⟨(some 32), none, (.pick (.t 26) (.c (.t (.bool true))) (.t 31))⟩, ⟨(some 33), none, (.mv (.t 32))⟩, ⟨(some 34), (some ⟨33, false⟩), (.fieldAddr 2 (.t 7))⟩, ⟨(some 35), (some ⟨33, false⟩), (.load none (.t 34))⟩, ⟨(some 36), (some ⟨33, false⟩), (.mv (.t 1))⟩, ⟨(some 37), (some ⟨33, false⟩), (.bin .sub (.t 36) (.c (.t (.int .i64 1))))⟩, ⟨(some 38), (some ⟨33, false⟩), (.indexAddr 2 (.t 35) (.t 37))⟩, ⟨(some 39), (some ⟨33, false⟩), (.fieldAddr 0 (.t 38))⟩, ⟨(some 40), (some ⟨33, false⟩), (.load none (.t 39))⟩, ⟨(some 41), (some ⟨33, false⟩), (.bin .eql (.t 40) (.c (.t (.int .i64 0))))⟩, ⟨(some 42), none, (.pick (.t 33) (.c (.t (.bool true))) (.t 41))⟩]) (.cond (.t 42) (.exit 1) .skip)) (.seq (.ops [⟨(some 8), none, (.mv (.c (.t (.int .i64 0))))⟩]) (.seq (.seq (.ops [⟨(some 9), none, (.mv (.c (.t (.int .i64 0))))⟩]) (.block 2 (.loop (.seq (.seq (.ops [⟨(some 43), none, (.mv (.t 9))⟩, ⟨(some 44), none, (.fieldAddr 0 (.t 2))⟩, ⟨(some 45), none, (.load none (.t 44))⟩, ⟨(some 46), none, (.len false (.t 45))⟩, ⟨(some 47), none, (.bin .lss (.t 43) (.t 46))⟩]) (.cond (.t 47) .skip (.exit 2))) (.seq (.block 3 (.seq (.ops [⟨(some 50), none, (.fieldAddr 0 (.t 2))⟩, ⟨(some 51), none, (.load none (.t 50))⟩, ⟨(some 52), none, (.mv (.t 9))⟩, ⟨(some 53), none, (.indexAddr 18 (.t 51) (.t 52))⟩, ⟨(some 54), none, (.fieldAddr 3 (.t 53))⟩, ⟨(some 55), none, (.load (some 3) (.t 54))⟩, ⟨(some 10), none, (.new [(.t (.int .i64 0)), (.t (.int .i64 0)), .nils])⟩, ⟨none, none, (.store 3 (.t 10) (.t 55))⟩]) (.seq (.drawn [(.mk 0 false ⟨(some 56), none, (.mv (.t 1))⟩), (.mk 1 false ⟨(some 57), none, (.fieldAddr 2 (.t 10))⟩), (.mk 2 false ⟨(some 58), none, (.load none (.t 57))⟩), (.mk 3 false ⟨(some 59), none, (.len false (.t 58))⟩), (.mk 4 false ⟨(some 60), none, (.bin .leq (.t 56) (.t 59))⟩), (.mk 5 false ⟨(some 61), none, (.mv (.t 60))⟩), (.mk 6 false ⟨(some 62), (some ⟨61, true⟩), (.fieldAddr 2 (.t 10))⟩), (.mk 7 false ⟨(some 63), (some ⟨61, true⟩), (.load none (.t 62))⟩), (.mk 8 false ⟨(some 64), (some ⟨61, true⟩), (.mv (.t 1))⟩), (.mk 9 false ⟨(some 65), (some ⟨61, true⟩), (.bin .sub (.t 64) (.c (.t (.int .i64 1))))⟩), (.mk 10 false ⟨(some 66), (some ⟨61, true⟩), (.indexAddr 2 (.t 63) (.t 65))⟩), (.mk 11 false ⟨(some 67), (some ⟨61, true⟩), (.load (some 2) (.t 66))⟩), (.mk 12 false ⟨(some 68), (some ⟨61, true⟩), (.fieldAddr 2 (.t 7))⟩), (.mk 13 false ⟨(some 69), (some ⟨61, true⟩), (.load none (.t 68))⟩), (.mk 14 false ⟨(some 70), (some ⟨61, true⟩), (.mv (.t 1))⟩), (.mk 15 false ⟨(some 71), (some ⟨61, true⟩), (.bin .sub (.t 70) (.c (.t (.int .i64 1))))⟩), (.mk 16 false ⟨(some 72), (some ⟨61, true⟩), (.indexAddr 2 (.t 69) (.t 71))⟩), (.mk 17 false ⟨(some 73), (some ⟨61, true⟩), (.load (some 2) (.t 72))⟩), (.mk 18 false ⟨(some 74), (some ⟨61, true⟩), (.eqA false [(.int .i64), .str] (.t 67) (.t 73))⟩), (.mk 19 false ⟨(some 75), none, (.pick (.t 61) (.t 74) (.c (.t (.bool false))))⟩)]) (.cond (.t 75) (.ops [⟨(some 76), none, (.mv (.t 8))⟩, ⟨(some 77), none, (.bin .add (.t 76) (.c (.t (.int .i64 1))))⟩, ⟨(some 8), none, (.mv (.t 77))⟩]) .skip)))) (.ops [⟨(some 48), none, (.mv (.t 9))⟩, ⟨(some 49), none, (.bin .add (.t 48) (.c (.t (.int .i64 1))))⟩, ⟨(some 9), none, (.mv (.t 49))⟩])))))) (.seq (.ops [⟨(some 78), none, (.mv (.t 8))⟩, ⟨(some 79), none, (.bin .mul (.c (.t (.int .i64 2))) (.t 78))⟩, ⟨(some 80), none, (.fieldAddr 0 (.t 2))⟩, ⟨(some 81), none, (.load none (.t 80))⟩, ⟨(some 82), none, (.len false (.t 81))⟩, ⟨(some 83), none, (.bin .gtr (.t 79) (.t 82))⟩]) (.cond (.t 83) (.seq (.ops [⟨(some 84), none, (.fieldAddr 2 (.t 7))⟩, ⟨(some 85), none, (.load none (.t 84))⟩, ⟨(some 86), none, (.mv (.t 1))⟩, ⟨(some 87), none, (.bin .sub (.t 86) (.c (.t (.int .i64 1))))⟩, ⟨(some 88), none, (.indexAddr 2 (.t 85) (.t 87))⟩, ⟨(some 89), none, (.fieldAddr 1 (.t 88))⟩, ⟨(some 90), none, (.load none (.t 89))⟩, ⟨(some 4), none, (.mv (.t 90))⟩, ⟨(some 5), none, (.mv (.c (.t (.bool true))))⟩]) .ret) .skip))))))) (.ops [⟨(some 16), none, (.mv (.t 6))⟩, ⟨(some 17), none, (.bin .add (.t 16) (.c (.t (.int .i64 1))))⟩, ⟨(some 6), none, (.mv (.t 17))⟩])))))) (.seq (.ops [⟨(some 4), none, (.mv (.c (.t (.str []))))⟩, ⟨(some 5), none, (.mv (.c (.t (.bool false))))⟩]) .ret)))
theorem k_spec_l27Major : comp Try.prog 91 (Try.f124.body.getD .skip) = some c_spec_l27Major := by kernel_rfl

theorem spec_l27Major (w : RecWorld) (hw : w.Ok) (index : Int) (hi : i64r index) (σ : Store) : ACalls Try.prog 124 [.agg w.vs, .t (.int .i64 index)] σ fun rr σ' => rr = majV (majR w index) ∧ σ' = σ := by
  refine acalls_of Try.func124 (by decide +kernel) (code := Try.f124.body.getD .skip) (n := 91) (c := c_spec_l27Major) (rs := [(.tmp 4), (.tmp 5)]) rfl rfl k_spec_l27Major (by kernel_rfl) (by simp) (fun hσ => ?_)
  have y1 := hw.Recorders.1
  have hh : True := trivial
  have fin : ∀ {u : List V} {τ : Store}, mkRes u = majV (majR w index) → retV σ.length (fun rr σ' => rr = majV (majR w index) ∧ σ' = σ) (σ ++ τ) (some u) := fun h => ret_same rfl hσ (by rw [h]; rfl) ⟨h, rfl⟩
  have fin0 : ∀ {u : List V}, mkRes u = majV (majR w index) → retV σ.length (fun rr σ' => rr = majV (majR w index) ∧ σ' = σ) σ (some u) := fun h => ret_same0 rfl ⟨h, rfl⟩
  simp -implicitDefEqProofs only [c_spec_l27Major, RecWorld.vs, List.length_map, S0, S1, S2, S3, S4, S5, S6, S7, S8, S9, S10, S11, S12, S13, S14, S15, opv, opvs, eget, env0, setD, lenStr, lenSl, isNilP, isNilS, putAt, if_true, if_false, reduceCtorEq, Nat.reduceLeDiff, Nat.reduceEqDiff, Nat.reduceSub, Nat.reduceMul, Nat.reduceAdd]
  refine loop_p [6, 1, 2] [1, 2] (fun k : Nat => [(6, .t (.int .i64 (k : Nat)))]) (fun k => k ≤ w.Recorders.length ∧ majOf index w.Recorders (w.Recorders.drop k) = majR w index) (fun k => w.Recorders.length - k) 0 (by simp) ⟨Nat.zero_le _, rfl⟩ rfl ?_
  rintro k ⟨hk, hall⟩
  simp -implicitDefEqProofs only [keep, List.length_map, S0, S1, S2, S3, S4, S5, S6, S7, S8, S9, S10, S11, S12, S13, S14, S15, opv, opvs, eget, env0, setD, lenStr, lenSl, isNilP, isNilS, putAt, if_true, if_false, reduceCtorEq, Nat.reduceLeDiff, Nat.reduceEqDiff, Nat.reduceSub, Nat.reduceMul, Nat.reduceAdd]
  refine cond_split (fun h1 => ?_) (fun h1 => ?_)
  · obtain ⟨x, hx, hlt⟩ := at_of h1
    have hd := drop_of hx
    have hx1 := hw.Recorders.2 x (mem_at hx)
    have more := i64_succ (show k < 4611686018427387904 by omega)
    simp -implicitDefEqProofs only [hx, nat_nn, Nat.zero_le, List.getElem?_map, Option.map_some, Recorder.ts, List.length_map, more, S0, S1, S2, S3, S4, S5, S6, S7, S8, S9, S10, S11, S12, S13, S14, S15, opv, opvs, eget, env0, setD, lenStr, lenSl, isNilP, isNilS, putAt, if_true, if_false, reduceCtorEq, Nat.reduceLeDiff, Nat.reduceEqDiff, Nat.reduceSub, Nat.reduceMul, Nat.reduceAdd]
    have hno : slotAt index x = none → majOf index w.Recorders (w.Recorders.drop (k + 1)) = majR w index := fun h => by
      rw [← hall, hd]; simp only [majOf, h]
    by_cases hr : 1 ≤ index ∧ index ≤ x.Safe.Slots.length
    · obtain ⟨s, hs1, hs2⟩ := slot_at hr.1 hr.2
      have hj : IntKind.i64.wrap (index - 1) = (((index - 1).toNat : Nat) : Int) := by
        simp only [i64r] at hi
        rw [IntWalk.i64_in _ (by omega)]; omega
      have f1 : decide (index < 1) = false := by simp; omega
      have f2 : decide (index > (x.Safe.Slots.length : Int)) = false := by simp; omega
      simp -implicitDefEqProofs only [f1, f2, cond_t, cond_f, hj, hs2, nat_nn, Nat.zero_le, List.getElem?_map, Option.map_some, RecSlot.ts, List.length_map, more, S0, S1, S2, S3, S4, S5, S6, S7, S8, S9, S10, S11, S12, S13, S14, S15, opv, opvs, eget, env0, setD, lenStr, lenSl, isNilP, isNilS, putAt, if_true, if_false, reduceCtorEq, Nat.reduceLeDiff, Nat.reduceEqDiff, Nat.reduceSub, Nat.reduceMul, Nat.reduceAdd]
      refine cond_split (fun g1 => ?_) (fun g1 => ?_)
      · simp -implicitDefEqProofs only [more, S0, S1, S2, S3, S4, S5, S6, S7, S8, S9, S10, S11, S12, S13, S14, S15, opv, opvs, eget, env0, setD, lenStr, lenSl, isNilP, isNilS, putAt, if_true, if_false, reduceCtorEq, Nat.reduceLeDiff, Nat.reduceEqDiff, Nat.reduceSub, Nat.reduceMul, Nat.reduceAdd]
        have hb : s.Ballot = 0 := by simpa using g1
        refine lk_pm (k + 1) (Nat.le_refl _) (by simp) hσ rfl rfl (by omega) ⟨by omega, ?_⟩ (by simp [ltE, keep, eget, V.lt]) rfl
        rw [← hall, hd]; simp only [majOf, hs1]
        rw [if_neg (by simp [winP, keyS, hb])]
      · simp -implicitDefEqProofs only [S0, S1, S2, S3, S4, S5, S6, S7, S8, S9, S10, S11, S12, S13, S14, S15, opv, opvs, eget, env0, setD, lenStr, lenSl, isNilP, isNilS, putAt, if_true, if_false, reduceCtorEq, Nat.reduceLeDiff, Nat.reduceEqDiff, Nat.reduceSub, Nat.reduceMul, Nat.reduceAdd]
        have hb : ¬ s.Ballot = 0 := by simpa using g1
        refine loop_p [8, 9, 1, 2, 6, 7] [1, 2, 6, 7] (fun j : Nat => [(8, .t (.int .i64 ((cntAt index (w.Recorders.take j) (keyS s) : Nat) : Int))), (9, .t (.int .i64 (j : Nat)))]) (fun j => j ≤ w.Recorders.length) (fun j => w.Recorders.length - j) 0 (by simp) (Nat.zero_le _) rfl ?_
        rintro j hj2
        have hc : cntAt index (w.Recorders.take j) (keyS s) ≤ j := Nat.le_trans (List.countP_le_length) (by simp; omega)
        simp -implicitDefEqProofs only [keep, List.length_map, S0, S1, S2, S3, S4, S5, S6, S7, S8, S9, S10, S11, S12, S13, S14, S15, opv, opvs, eget, env0, setD, lenStr, lenSl, isNilP, isNilS, putAt, if_true, if_false, reduceCtorEq, Nat.reduceLeDiff, Nat.reduceEqDiff, Nat.reduceSub, Nat.reduceMul, Nat.reduceAdd]
        refine cond_split (fun g2 => ?_) (fun g2 => ?_)
        · obtain ⟨y, hy, hlt2⟩ := at_of g2
          have hty := take_of hy
          have more2 := i64_succ (show j < 4611686018427387904 by omega)
          have more3 := i64_succ (show cntAt index (w.Recorders.take j) (keyS s) < 4611686018427387904 by omega)
          have hcn : cntAt index (w.Recorders.take (j + 1)) (keyS s) = cntAt index (w.Recorders.take j) (keyS s) + if sameAt index (keyS s) y = true then 1 else 0 := by
            rw [hty, cntAt, List.countP_append]; simp [cntAt, List.countP_cons]
          simp -implicitDefEqProofs only [hy, nat_nn, Nat.zero_le, List.getElem?_map, Option.map_some, Recorder.ts, List.length_map, more2, S0, S1, S2, S3, S4, S5, S6, S7, S8, S9, S10, S11, S12, S13, S14, S15, opv, opvs, eget, env0, setD, lenStr, lenSl, isNilP, isNilS, putAt, if_true, if_false, reduceCtorEq, Nat.reduceLeDiff, Nat.reduceEqDiff, Nat.reduceSub, Nat.reduceMul, Nat.reduceAdd]
          by_cases hr2 : index ≤ y.Safe.Slots.length
          · obtain ⟨s2, hs3, hs4⟩ := slot_at hr.1 hr2
            have f3 : decide (index ≤ (y.Safe.Slots.length : Int)) = true := by simp; omega
            simp -implicitDefEqProofs only [f3, cond_t, cond_f, hj, hs2, hs4, nat_nn, Nat.zero_le, List.getElem?_map, Option.map_some, RecSlot.ts, List.length_map, more2, S0, S1, S2, S3, S4, S5, S6, S7, S8, S9, S10, S11, S12, S13, S14, S15, opv, opvs, eget, env0, setD, lenStr, lenSl, isNilP, isNilS, putAt, if_true, if_false, reduceCtorEq, Nat.reduceLeDiff, Nat.reduceEqDiff, Nat.reduceSub, Nat.reduceMul, Nat.reduceAdd]
            refine cond_split (fun g3 => ?_) (fun g3 => ?_)
            · have hsm : sameAt index (keyS s) y = true := by
                simp only [Bool.and_eq_true, beq_iff_eq] at g3
                simp [sameAt, hs3, keyS, g3.1, g3.2]
              rw [hsm, if_pos rfl] at hcn
              simp -implicitDefEqProofs only [more2, more3, S0, S1, S2, S3, S4, S5, S6, S7, S8, S9, S10, S11, S12, S13, S14, S15, opv, opvs, eget, env0, setD, lenStr, lenSl, isNilP, isNilS, putAt, if_true, if_false, reduceCtorEq, Nat.reduceLeDiff, Nat.reduceEqDiff, Nat.reduceSub, Nat.reduceMul, Nat.reduceAdd]
              exact lk_pm (j + 1) (by simp) (by simp) hσ rfl rfl (by omega) (by omega) (by simp [ltE, keep, eget, V.lt]) (by rw [hcn]; rfl)
            · have hsm : sameAt index (keyS s) y = false := by
                simp only [Bool.and_eq_false_iff, beq_eq_false_iff_ne] at g3
                simp only [sameAt, hs3, keyS, Option.map_some, decide_eq_false_iff_not, Option.some.injEq, Prod.mk.injEq]
                rintro ⟨h1, h2⟩
                rcases g3 with g3 | g3
                · exact g3 h1
                · exact g3 h2
              rw [hsm, if_neg (by simp)] at hcn
              simp -implicitDefEqProofs only [more2, S0, S1, S2, S3, S4, S5, S6, S7, S8, S9, S10, S11, S12, S13, S14, S15, opv, opvs, eget, env0, setD, lenStr, lenSl, isNilP, isNilS, putAt, if_true, if_false, reduceCtorEq, Nat.reduceLeDiff, Nat.reduceEqDiff, Nat.reduceSub, Nat.reduceMul, Nat.reduceAdd]
              exact lk_pm (j + 1) (by simp) (by simp) hσ rfl rfl (by omega) (by omega) (by simp [ltE, keep, eget, V.lt]) (by rw [hcn]; rfl)
          · have f3 : decide (index ≤ (y.Safe.Slots.length : Int)) = false := by simp; omega
            simp -implicitDefEqProofs only [f3, cond_t, cond_f, more2, S0, S1, S2, S3, S4, S5, S6, S7, S8, S9, S10, S11, S12, S13, S14, S15, opv, opvs, eget, env0, setD, lenStr, lenSl, isNilP, isNilS, putAt, if_true, if_false, reduceCtorEq, Nat.reduceLeDiff, Nat.reduceEqDiff, Nat.reduceSub, Nat.reduceMul, Nat.reduceAdd]
            have hsm : sameAt index (keyS s) y = false := by simp [sameAt, slot_no (r := y) (index := index) (by omega)]
            rw [hsm, if_neg (by simp)] at hcn
            exact lk_pm (j + 1) (by simp) (by simp) hσ rfl rfl (by omega) (by omega) (by simp [ltE, keep, eget, V.lt]) (by rw [hcn]; rfl)
        · have hjj := end_of g2 hj2
          subst hjj
          rw [List.take_length] at hc ⊢
          have h2m : IntKind.i64.wrap (2 * ((cntAt index w.Recorders (keyS s) : Nat) : Int)) = ((2 * cntAt index w.Recorders (keyS s) : Nat) : Int) := by
            rw [IntWalk.i64_in _ (by omega)]; omega
          have hwin : winP index w.Recorders (keyS s) = decide (((2 * cntAt index w.Recorders (keyS s) : Nat) : Int) > (w.Recorders.length : Int)) := by
            simp only [winP, keyS, hb, decide_false, Bool.not_false, Bool.true_and]
            apply decide_eq_decide.2
            omega
          simp -implicitDefEqProofs only [h2m, List.length_map, S0, S1, S2, S3, S4, S5, S6, S7, S8, S9, S10, S11, S12, S13, S14, S15, opv, opvs, eget, env0, setD, lenStr, lenSl, isNilP, isNilS, putAt, if_true, if_false, reduceCtorEq, Nat.reduceLeDiff, Nat.reduceEqDiff, Nat.reduceSub, Nat.reduceMul, Nat.reduceAdd]
          rw [← hwin]
          refine cond_split (fun g3 => ?_) (fun g3 => ?_)
          · simp -implicitDefEqProofs only [hj, hs2, nat_nn, Nat.zero_le, List.getElem?_map, Option.map_some, RecSlot.ts, List.length_map, S0, S1, S2, S3, S4, S5, S6, S7, S8, S9, S10, S11, S12, S13, S14, S15, opv, opvs, eget, env0, setD, lenStr, lenSl, isNilP, isNilS, putAt, if_true, if_false, reduceCtorEq, Nat.reduceLeDiff, Nat.reduceEqDiff, Nat.reduceSub, Nat.reduceMul, Nat.reduceAdd]
            refine fin ?_
            rw [← hall, hd]; simp only [majOf, hs1, g3, if_true]; rfl
          · simp -implicitDefEqProofs only [more, S0, S1, S2, S3, S4, S5, S6, S7, S8, S9, S10, S11, S12, S13, S14, S15, opv, opvs, eget, env0, setD, lenStr, lenSl, isNilP, isNilS, putAt, if_true, if_false, reduceCtorEq, Nat.reduceLeDiff, Nat.reduceEqDiff, Nat.reduceSub, Nat.reduceMul, Nat.reduceAdd]
            refine lk_pm (k + 1) (Nat.le_refl _) (by simp) hσ rfl rfl (by omega) ⟨by omega, ?_⟩ (by simp [ltE, keep, eget, V.lt]) rfl
            rw [← hall, hd]; simp only [majOf, hs1, g3, Bool.false_eq_true, if_false]
    · by_cases h1 : index < 1
      · have f1 : decide (index < 1) = true := by simp; omega
        simp -implicitDefEqProofs only [f1, cond_t, cond_f, more, S0, S1, S2, S3, S4, S5, S6, S7, S8, S9, S10, S11, S12, S13, S14, S15, opv, opvs, eget, env0, setD, lenStr, lenSl, isNilP, isNilS, putAt, if_true, if_false, reduceCtorEq, Nat.reduceLeDiff, Nat.reduceEqDiff, Nat.reduceSub, Nat.reduceMul, Nat.reduceAdd]
        refine lk_pm (k + 1) (Nat.le_refl _) (by simp) hσ rfl rfl (by omega) ⟨by omega, hno (slot_no hr)⟩ (by simp [ltE, keep, eget, V.lt]) rfl
      · have f1 : decide (index < 1) = false := by simp; omega
        have f2 : decide (index > (x.Safe.Slots.length : Int)) = true := by simp; omega
        simp -implicitDefEqProofs only [f1, f2, cond_t, cond_f, more, List.length_map, S0, S1, S2, S3, S4, S5, S6, S7, S8, S9, S10, S11, S12, S13, S14, S15, opv, opvs, eget, env0, setD, lenStr, lenSl, isNilP, isNilS, putAt, if_true, if_false, reduceCtorEq, Nat.reduceLeDiff, Nat.reduceEqDiff, Nat.reduceSub, Nat.reduceMul, Nat.reduceAdd]
        refine lk_pm (k + 1) (Nat.le_refl _) (by simp) hσ rfl rfl (by omega) ⟨by omega, hno (slot_no hr)⟩ (by simp [ltE, keep, eget, V.lt]) rfl
  · have hkk := end_of h1 hk
    rw [hkk, List.drop_length] at hall
    simp -implicitDefEqProofs only [S0, S1, S2, S3, S4, S5, S6, S7, S8, S9, S10, S11, S12, S13, S14, S15, opv, opvs, eget, env0, setD, lenStr, lenSl, isNilP, isNilS, putAt, if_true, if_false, reduceCtorEq, Nat.reduceLeDiff, Nat.reduceEqDiff, Nat.reduceSub, Nat.reduceMul, Nat.reduceAdd]
    refine fin ?_
    rw [← hall]; rfl
/-! ### the plain law -/
theorem slots_nn {w : RecWorld} (hv : worldOk w = true) {r : Recorder} (hr : r ∈ w.Recorders) {index : Int} {s : RecSlot} (hs : slotAt index r = some s) : 0 ≤ s.Ballot := by
  obtain ⟨i, hi, rfl⟩ := List.getElem_of_mem hr
  have h1 : w.Recorders.zipIdx.all (recP w) = true := by grind [worldOk]
  have h2 := List.all_eq_true.1 h1 (w.Recorders[i], i) (by rw [List.mem_zipIdx_iff_getElem?]; simp [hi])
  have h3 : validR w.Recorders[i] = true := by grind [recP]
  have h4 : diskOk w.Recorders[i].Safe = true := by grind [validR]
  have h5 : slotsOk w.Recorders[i].Safe.Slots = true := by grind [diskOk]
  have h6 : w.Recorders[i].Safe.Slots.all slotOk = true := by grind [slotsOk]
  have h7 : s ∈ w.Recorders[i].Safe.Slots := by
    unfold slotAt at hs
    split at hs
    · exact List.mem_of_getElem? hs
    · cases hs
  have h8 := List.all_eq_true.1 h6 s h7
  simp only [slotOk, wi, Bool.and_eq_true, decide_eq_true_eq] at h8
  exact h8.1.1.1
theorem cnt_two {index : Int} {p q : KP} (h : p ≠ q) : ∀ l : List Recorder, cntAt index l p + cntAt index l q ≤ l.length
  | [] => by simp [cntAt]
  | r :: l => by
    have ih := cnt_two (index := index) h l
    simp only [cntAt] at ih ⊢
    rw [List.countP_cons, List.countP_cons, List.length_cons]
    have : ¬ (sameAt index p r = true ∧ sameAt index q r = true) := by
      rintro ⟨h1, h2⟩
      simp only [sameAt, decide_eq_true_eq] at h1 h2
      rw [h1] at h2
      exact h (Option.some.inj h2)
    by_cases h1 : sameAt index p r = true <;> by_cases h2 : sameAt index q r = true <;> simp_all <;> omega
theorem maj_win {index : Int} {l : List Recorder} {s : RecSlot} (hw : winP index l (keyS s) = true) : ∀ m : List Recorder, (∃ r ∈ m, slotAt index r = some s) → majOf index l m = (s.Text, true)
  | [], h => by obtain ⟨r, hr, _⟩ := h; simp at hr
  | r :: m, h => by
    have uniq : ∀ t : RecSlot, winP index l (keyS t) = true → keyS t = keyS s := by
      intro t ht
      refine Classical.byContradiction fun hne => ?_
      have := cnt_two (index := index) hne l
      simp only [winP, Bool.and_eq_true, decide_eq_true_eq] at hw ht
      omega
    simp only [majOf]
    cases hs : slotAt index r with
    | none =>
      simp only
      refine maj_win hw m ?_
      obtain ⟨r', hr', h'⟩ := h
      rcases List.mem_cons.1 hr' with rfl | hr'
      · rw [hs] at h'; cases h'
      · exact ⟨r', hr', h'⟩
    | some t =>
      simp only
      by_cases ht : winP index l (keyS t) = true
      · rw [if_pos ht]
        have := uniq t ht
        simp only [keyS, Prod.mk.injEq] at this
        rw [this.2]
      · rw [if_neg ht]
        refine maj_win hw m ?_
        obtain ⟨r', hr', h'⟩ := h
        rcases List.mem_cons.1 hr' with rfl | hr'
        · rw [hs] at h'; cases h'; exact absurd hw ht
        · exact ⟨r', hr', h'⟩
theorem maj_none {index : Int} {l : List Recorder} : ∀ m : List Recorder, (∀ r ∈ m, ∀ s, slotAt index r = some s → winP index l (keyS s) = false) → majOf index l m = ([], false)
  | [], _ => rfl
  | r :: m, h => by
    have ih := maj_none (index := index) (l := l) m fun r' hr' => h r' (by simp [hr'])
    simp only [majOf]
    cases hs : slotAt index r with
    | none => exact ih
    | some t => simp only [h r (by simp) t hs, Bool.false_eq_true, if_false]; exact ih
theorem cnt_take (index : Int) (l : List Recorder) (k : Nat) (p : KP) : cntAt index (l.take k) p ≤ cntAt index l p :=
  (List.take_sublist k l).countP_le
def cntV (n : Nat) : V := .t (.int .i64 (n : Nat))
structure MJ where
  k : Nat
  c : Nat
  es : List ME
def MJ.I (w : RecWorld) (index : Int) (g : MJ) : Prop := g.k ≤ w.Recorders.length ∧ (∃ f, MapIs kS g.c g.es f ∧ ∀ p, (f p).getD (.t (.int .i64 0)) = cntV (cntAt index (w.Recorders.take g.k) p)) ∧ MLt g.es ∧
  ∀ p : KP, 0 < p.1 → 2 * cntAt index (w.Recorders.take g.k) p ≤ w.Recorders.length
def c___impl_RecWorld__major : C := (.seq (.ops [⟨(some 4), none, (.mv (.c (.t (.str []))))⟩, ⟨(some 5), none, (.mv (.c (.t (.bool false))))⟩]) (.seq (.ops [⟨(some 10), none, .mkMap⟩, ⟨(some 6), none, (.mv (.t 10))⟩]) (.seq (.seq (.ops [⟨(some 11), none, (.mv (.t 0))⟩, ⟨(some 12), none, (.nilCheck (.t 11))⟩, ⟨(some 13), none, (.fieldAddr 0 (.t 12))⟩, ⟨(some 14), none, (.load none (.t 13))⟩, ⟨(some 15), none, (.len false (.t 14))⟩, ⟨(some 16), none, (.mv (.c (.t (.int .i64 0))))⟩]) (.block 0 (.loop (.seq (.ops [⟨(some 17), none, (.bin .lss (.t 16) (.t 15))⟩]) (.seq (.cond (.t 17) .skip (.exit 0)) (.seq (.block 1 (.seq (.ops [⟨(some 18), none, (.indexAddr 18 (.t 14) (.t 16))⟩, ⟨(some 19), none, (.load (some 18) (.t 18))⟩, ⟨(some 8), none, (.new [(.t (.int .i64 0)), (.t (.int .i64 0)), (.t (.bool false)), (.t (.int .i64 0)), (.t (.int .i64 0)), .nils, (.t (.int .i64 0)), (.t (.int .i64 0)), .nils, .nils, .nils, (.t (.bool false)), (.t (.bool false)), (.t (.int .i64 0)), .nils, .nils, .nils, (.t (.int .i64 0))])⟩, ⟨none, none, (.store 18 (.t 8) (.t 19))⟩]) (.seq (.ops [⟨(some 20), none, (.mv (.t 1))⟩, ⟨(some 21), none, (.bin .geq (.t 20) (.c (.t (.int .i64 1))))⟩, ⟨(some 22), none, (.mv (.t 21))⟩, ⟨(some 23), (some ⟨22, true⟩), (.mv (.t 1))⟩, ⟨(some 24), (some ⟨22, true⟩), (.fieldAddr 3 (.t 8))⟩, ⟨(some 25), (some ⟨22, true⟩), (.fieldAddr 2 (.t 24))⟩, ⟨(some 26), (some ⟨22, true⟩), (.load none (.t 25))⟩, ⟨(some 27), (some ⟨22, true⟩), (.len false (.t 26))⟩, ⟨(some 28), (some ⟨22, true⟩), (.bin .leq (.t 23) (.t 27))⟩, ⟨(some 29), none, (.pick (.t 22) (.t 28) (.c (.t (.bool false))))⟩]) (.cond (.t 29) (.seq (.ops [⟨(some 30), none, (.fieldAddr 3 (.t 8))⟩, ⟨(some 31), none, (.fieldAddr 2 (.t 30))⟩, ⟨(some 32), none, (.load none (.t 31))⟩, ⟨(some 33), none, (.mv (.t 1))⟩, ⟨(some 34), none, (.bin .sub (.t 33) (.c (.t (.int .i64 1))))⟩, ⟨(some 35), none, (.indexAddr 2 (.t 32) (.t 34))⟩, ⟨(some 36), none, (.load (some 2) (.t 35))⟩, ⟨(some 9), none, (.new [(.t (.int .i64 0)), (.t (.str []))])⟩, ⟨none, none, (.store 2 (.t 9) (.t 36))⟩]) (.seq (.drawn [(.mk 0 false ⟨(some 37), none, (.mv (.t 6))⟩), (.mk 1 false ⟨(some 38), none, (.load (some 2) (.t 9))⟩), (.mk 2 false ⟨(some 39), none, (.look (.st [(.int .i64), .str]) false (.t (.int .i64 0)) (.t 37) (.t 38))⟩), (.mk 3 false ⟨(some 40), none, (.bin .add (.t 39) (.c (.t (.int .i64 1))))⟩), (.mk 4 false ⟨(some 41), none, (.mapEnt (.st [(.int .i64), .str]) (.t (.int .i64 0)) (.t 37) (.t 38))⟩), (.mk 5 false ⟨(some 42), none, (.extract (.t 41) 1)⟩), (.mk 6 false ⟨none, none, (.entSt (.t 37) (.t 42) (.t 40))⟩)]) (.seq (.drawn [(.mk 0 false ⟨(some 43), none, (.fieldAddr 0 (.t 9))⟩), (.mk 1 false ⟨(some 44), none, (.load none (.t 43))⟩), (.mk 2 false ⟨(some 45), none, (.bin .gtr (.t 44) (.c (.t (.int .i64 0))))⟩), (.mk 3 false ⟨(some 46), none, (.mv (.t 45))⟩), (.mk 4 false ⟨(some 47), (some ⟨46, true⟩), (.mv (.t 6))⟩), (.mk 5 false ⟨(some 48), (some ⟨46, true⟩), (.load (some 2) (.t 9))⟩), (.mk 6 false ⟨(some 49), (some ⟨46, true⟩), (.look (.st [(.int .i64), .str]) false (.t (.int .i64 0)) (.t 47) (.t 48))⟩), (.mk 7 false ⟨(some 50), (some ⟨46, true⟩), (.bin .mul (.c (.t (.int .i64 2))) (.t 49))⟩), (.mk 8 false ⟨(some 51), (some ⟨46, true⟩), (.mv (.t 0))⟩), (.mk 9 false ⟨(some 52), (some ⟨46, true⟩), (.nilCheck (.t 51))⟩), (.mk 10 false ⟨(some 53), (some ⟨46, true⟩), (.fieldAddr 0 (.t 52))⟩), (.mk 11 false ⟨(some 54), (some ⟨46, true⟩), (.load none (.t 53))⟩), (.mk 12 false ⟨(some 55), (some ⟨46, true⟩), (.len false (.t 54))⟩), (.mk 13 false ⟨(some 56), (some ⟨46, true⟩), (.bin .gtr (.t 50) (.t 55))⟩), (.mk 14 false ⟨(some 57), none, (.pick (.t 46) (.t 56) (.c (.t (.bool false))))⟩)]) (.cond (.t 57) (.seq (.ops [⟨(some 58), none, (.fieldAddr 1 (.t 9))⟩, ⟨(some 59), none, (.load none (.t 58))⟩, ⟨(some 4), none, (.mv (.t 59))⟩, ⟨(some 5), none, (.mv (.c (.t (.bool true))))⟩]) .ret) .skip)))) .skip)))) (.ops [⟨(some 60), none, (.bin .add (.t 16) (.c (.t (.int .i64 1))))⟩, ⟨(some 16), none, (.mv (.t 60))⟩]))))))) (.seq (.ops [⟨(some 4), none, (.mv (.c (.t (.str []))))⟩, ⟨(some 5), none, (.mv (.c (.t (.bool false))))⟩]) .ret))))
theorem k___impl_RecWorld__major : comp Try.prog 61 (Try.f125.body.getD .skip) = some c___impl_RecWorld__major := by kernel_rfl

theorem impl_major (w : RecWorld) (hw : w.Ok) (hv : worldOk w = true) (index : Int) (hi : i64r index) (σ : Store) (id : Nat) (hid : σ[id]? = some (.box w.vs)) :
    ACalls Try.prog 125 [.ptr id 0, .t (.int .i64 index)] σ fun rr σ' => rr = majV (majR w index) ∧ σ' = σ := by
  refine acalls_of Try.func125 (by decide +kernel) (code := Try.f125.body.getD .skip) (n := 61) (c := c___impl_RecWorld__major) (rs := [(.tmp 4), (.tmp 5)]) rfl rfl k___impl_RecWorld__major (by kernel_rfl) (by simp) (fun hσ => ?_)
  have y1 := hw.Recorders.1
  rw [RecWorld.vs] at hid
  have fin : ∀ {u : List V} {τ : Store}, mkRes u = majV (majR w index) → retV σ.length (fun rr σ' => rr = majV (majR w index) ∧ σ' = σ) (σ ++ τ) (some u) := fun h => ret_same rfl hσ (by rw [h]; rfl) ⟨h, rfl⟩
  have hidl : id < σ.length := (List.getElem?_eq_some_iff.1 hid).1
  have hidA : ∀ τ : Store, (σ ++ τ)[id]? = some (.box [.t (.lst 18 (w.Recorders.map Recorder.ts)), .t (.lst 8 (w.Flight.map RecMessage.ts)), .t (.lst 2 (w.Fixed.map RecFix.ts))]) := fun τ => (Kp.app σ τ).box hid
  simp -implicitDefEqProofs only [c___impl_RecWorld__major, hid, hidA, List.length_map, S0, S1, S2, S3, S4, S5, S6, S7, S8, S9, S10, S11, S12, S13, S14, S15, opv, opvs, eget, env0, setD, lenStr, lenSl, isNilP, isNilS, putAt, if_true, if_false, reduceCtorEq, Nat.reduceLeDiff, Nat.reduceEqDiff, Nat.reduceSub, Nat.reduceMul, Nat.reduceAdd]
  refine loop_s [16, 0, 1, 6, 14, 15] [0, 1, 6, 14, 15] (fun g : MJ => [(16, .t (.int .i64 (g.k : Nat)))]) (fun g => σ ++ [.map g.c g.es]) (MJ.I w index) (fun g => w.Recorders.length - g.k) ⟨0, 0, []⟩ (σ.length + 1) (fun g => by simp) (Nat.le_succ _) ⟨Nat.zero_le _, ⟨_, MapIs.nil, fun p => rfl⟩, MLt.nil, fun p _ => by simp [cntAt]⟩ rfl rfl ?_
  rintro ⟨k, c, es⟩ ⟨hk, ⟨f, hf, hfv⟩, hlt, hnw⟩
  simp only at hk hf hfv hlt hnw
  simp -implicitDefEqProofs only [keep, List.length_map, S0, S1, S2, S3, S4, S5, S6, S7, S8, S9, S10, S11, S12, S13, S14, S15, opv, opvs, eget, env0, setD, lenStr, lenSl, isNilP, isNilS, putAt, if_true, if_false, reduceCtorEq, Nat.reduceLeDiff, Nat.reduceEqDiff, Nat.reduceSub, Nat.reduceMul, Nat.reduceAdd]
  refine cond_split (fun h1 => ?_) (fun h1 => ?_)
  · obtain ⟨x, hx, hlx⟩ := at_of h1
    have htx := take_of hx
    have more := i64_succ (show k < 4611686018427387904 by omega)
    simp -implicitDefEqProofs only [hx, nat_nn, Nat.zero_le, List.getElem?_map, Option.map_some, Recorder.ts, List.length_map, more, hidA, S0, S1, S2, S3, S4, S5, S6, S7, S8, S9, S10, S11, S12, S13, S14, S15, opv, opvs, eget, env0, setD, lenStr, lenSl, isNilP, isNilS, putAt, if_true, if_false, reduceCtorEq, Nat.reduceLeDiff, Nat.reduceEqDiff, Nat.reduceSub, Nat.reduceMul, Nat.reduceAdd]
    have hIn : ∀ (c' : Nat) (es' : List ME) (τ : Store) (e' : Env), slotAt index x = none → c' = c → es' = es → MJ.I w index ⟨k + 1, c', es'⟩ := by
      rintro c' es' τ e' hn rfl rfl
      have hz : ∀ p, cntAt index (w.Recorders.take (k + 1)) p = cntAt index (w.Recorders.take k) p := fun p => by
        rw [htx, cntAt, List.countP_append]; simp [cntAt, List.countP_cons, sameAt, hn]
      exact ⟨hlx, ⟨f, hf, fun p => by rw [hz]; exact hfv p⟩, hlt, fun p hp => by rw [hz]; exact hnw p hp⟩
    by_cases hr : 1 ≤ index ∧ index ≤ x.Safe.Slots.length
    · obtain ⟨s, hs1, hs2⟩ := slot_at hr.1 hr.2
      have hj : IntKind.i64.wrap (index - 1) = (((index - 1).toNat : Nat) : Int) := by
        simp only [i64r] at hi
        rw [IntWalk.i64_in _ (by omega)]; omega
      have f1 : decide (index ≥ 1) = true := by simp; omega
      have f2 : decide (index ≤ (x.Safe.Slots.length : Int)) = true := by simp; omega
      have hsn := slots_nn hv (mem_at hx) hs1
      obtain ⟨n, hn⟩ : ∃ n, n = cntAt index (w.Recorders.take k) (keyS s) := ⟨_, rfl⟩
      have hnle : n ≤ k := by rw [hn]; exact Nat.le_trans (List.countP_le_length) (by simp; omega)
      have hl1 : lookR false (.t (.int .i64 0)) (findM (.agg [.t (.int .i64 s.Ballot), .t (.str s.Text)]) es) = .t (.int .i64 (n : Nat)) := by
        rw [hn]; exact (hf.look _ (keyS s)).trans (hfv _)
      have hv1 : valOr (.t (.int .i64 0)) (findM (.agg [.t (.int .i64 s.Ballot), .t (.str s.Text)]) es) = .t (.int .i64 (n : Nat)) := by
        rw [hn]; exact (hf.val _ (keyS s)).trans (hfv _)
      have hko : keysOk (.st [.int .i64, .str]) es = true := hf.keys (fun _ => rfl)
      have hst := hf.store (.agg [.t (.int .i64 s.Ballot), .t (.str s.Text)]) (.t (.int .i64 ((n + 1 : Nat) : Int))) (.t (.int .i64 (n : Nat)))
      have hf' := hf.put keyOf_kS (keyS s) (.t (.int .i64 ((n + 1 : Nat) : Int)))
      have hl2 : lookR false (.t (.int .i64 0)) (findM (.agg [.t (.int .i64 s.Ballot), .t (.str s.Text)]) (putM (.agg [.t (.int .i64 s.Ballot), .t (.str s.Text)]) (.t (.int .i64 ((n + 1 : Nat) : Int))) c es)) = .t (.int .i64 ((n + 1 : Nat) : Int)) :=
        (hf'.look _ (keyS s)).trans (by simp [updF])
      have hko2 : keysOk (.st [.int .i64, .str]) (putM (.agg [.t (.int .i64 s.Ballot), .t (.str s.Text)]) (.t (.int .i64 ((n + 1 : Nat) : Int))) c es) = true := hf'.keys (fun _ => rfl)
      have morn := i64_succ (show n < 4611686018427387904 by omega)
      have h2m : IntKind.i64.wrap (2 * ((n + 1 : Nat) : Int)) = ((2 * (n + 1) : Nat) : Int) := by
        rw [IntWalk.i64_in _ (by omega)]; omega
      simp -implicitDefEqProofs only [f1, f2, cond_t, cond_f, hj, hs2, nat_nn, Nat.zero_le, List.getElem?_map, Option.map_some, RecSlot.ts, List.length_map, more, hidA, hl1, hv1, hko, hst, hl2, hko2, morn, h2m, S0, S1, S2, S3, S4, S5, S6, S7, S8, S9, S10, S11, S12, S13, S14, S15, opv, opvs, eget, env0, setD, lenStr, lenSl, isNilP, isNilS, putAt, if_true, if_false, reduceCtorEq, Nat.reduceLeDiff, Nat.reduceEqDiff, Nat.reduceSub, Nat.reduceMul, Nat.reduceAdd]
      have hcn : ∀ p, cntAt index (w.Recorders.take (k + 1)) p = cntAt index (w.Recorders.take k) p + if p = keyS s then 1 else 0 := fun p => by
        have hsx : sameAt index p x = decide (keyS s = p) := by simp [sameAt, hs1]
        rw [htx, cntAt, List.countP_append, List.countP_cons, List.countP_nil, Nat.zero_add, hsx]
        by_cases hp : p = keyS s
        · subst hp; simp [cntAt]
        · rw [if_neg hp, if_neg (by simp; exact fun e => hp e.symm)]; rfl
      have hvals : ∀ p, (updF f (keyS s) (.t (.int .i64 ((n + 1 : Nat) : Int))) p).getD (.t (.int .i64 0)) = cntV (cntAt index (w.Recorders.take (k + 1)) p) := fun p => by
        rw [hcn]
        by_cases hp : p = keyS s
        · subst hp; simp only [updF, if_true, Option.getD_some, ← hn]; rfl
        · simp only [updF, hp, if_false, Nat.add_zero]; exact hfv p
      have hmlt := hlt.put c (k := .agg [.t (.int .i64 s.Ballot), .t (.str s.Text)]) (x := .t (.int .i64 ((n + 1 : Nat) : Int))) rfl rfl
      have hend : (0 < s.Ballot → 2 * (n + 1) ≤ w.Recorders.length) → MJ.I w index ⟨k + 1, clkM (kS (keyS s)) c es, putM (kS (keyS s)) (.t (.int .i64 ((n + 1 : Nat) : Int))) c es⟩ := fun h => by
        refine ⟨hlx, ⟨_, hf', hvals⟩, hmlt, fun p hp => ?_⟩
        simp only
        rw [hcn]
        by_cases he : p = keyS s
        · subst he
          rw [if_pos rfl, ← hn]
          exact h hp
        · rw [if_neg he]; exact hnw p hp
      refine cond_split (fun g3 => ?_) (fun g3 => ?_)
      · have hpos : 0 < s.Ballot := by simpa using g3
        simp -implicitDefEqProofs only [g3, hidA, hl2, hko2, h2m, List.length_map, S0, S1, S2, S3, S4, S5, S6, S7, S8, S9, S10, S11, S12, S13, S14, S15, opv, opvs, eget, env0, setD, lenStr, lenSl, isNilP, isNilS, putAt, if_true, if_false, reduceCtorEq, Nat.reduceLeDiff, Nat.reduceEqDiff, Nat.reduceSub, Nat.reduceMul, Nat.reduceAdd]
        refine cond_split (fun g4 => ?_) (fun g4 => ?_)
        · simp -implicitDefEqProofs only [S0, S1, S2, S3, S4, S5, S6, S7, S8, S9, S10, S11, S12, S13, S14, S15, opv, opvs, eget, env0, setD, lenStr, lenSl, isNilP, isNilS, putAt, if_true, if_false, reduceCtorEq, Nat.reduceLeDiff, Nat.reduceEqDiff, Nat.reduceSub, Nat.reduceMul, Nat.reduceAdd]
          refine fin ?_
          have hw2 : winP index w.Recorders (keyS s) = true := by
            have h1 := hcn (keyS s)
            rw [if_pos rfl, ← hn] at h1
            have h2 := cnt_take index w.Recorders (k + 1) (keyS s)
            have h3 : 2 * (n + 1) > w.Recorders.length := by simp at g4; omega
            have h4 : 2 * cntAt index w.Recorders (keyS s) > w.Recorders.length := by omega
            have h5 : ¬ (keyS s).1 = 0 := by simp only [keyS]; omega
            simp [winP, h4, h5]
          rw [majR, maj_win hw2 _ ⟨x, mem_at hx, hs1⟩]
          rfl
        · simp -implicitDefEqProofs only [more, S0, S1, S2, S3, S4, S5, S6, S7, S8, S9, S10, S11, S12, S13, S14, S15, opv, opvs, eget, env0, setD, lenStr, lenSl, isNilP, isNilS, putAt, if_true, if_false, reduceCtorEq, Nat.reduceLeDiff, Nat.reduceEqDiff, Nat.reduceSub, Nat.reduceMul, Nat.reduceAdd]
          exact lk_s ⟨k + 1, clkM (kS (keyS s)) c es, putM (kS (keyS s)) (.t (.int .i64 ((n + 1 : Nat) : Int))) c es⟩ (by simp) (Nat.le_succ _) (by simp only [List.append_assoc, List.cons_append, List.nil_append]; rfl) (by simp only; omega) (hend fun _ => by simp at g4; omega) (hmlt.store _ hσ) (by simp [ltE, keep, eget, V.lt]; omega) rfl
      · simp -implicitDefEqProofs only [g3, hidA, hl2, hko2, h2m, more, List.length_map, S0, S1, S2, S3, S4, S5, S6, S7, S8, S9, S10, S11, S12, S13, S14, S15, opv, opvs, eget, env0, setD, lenStr, lenSl, isNilP, isNilS, putAt, if_true, if_false, reduceCtorEq, Nat.reduceLeDiff, Nat.reduceEqDiff, Nat.reduceSub, Nat.reduceMul, Nat.reduceAdd]
        exact lk_s ⟨k + 1, clkM (kS (keyS s)) c es, putM (kS (keyS s)) (.t (.int .i64 ((n + 1 : Nat) : Int))) c es⟩ (by simp) (Nat.le_succ _) (by simp only [List.append_assoc, List.cons_append, List.nil_append]; rfl) (by simp only; omega) (hend fun h => by simp at g3; omega) (hmlt.store _ hσ) (by simp [ltE, keep, eget, V.lt]; omega) rfl
    · have hn := slot_no hr
      by_cases h1 : index ≥ 1
      · have f1 : decide (index ≥ 1) = true := by simp; omega
        have f2 : decide (index ≤ (x.Safe.Slots.length : Int)) = false := by simp; omega
        simp -implicitDefEqProofs only [f1, f2, cond_t, cond_f, more, List.length_map, S0, S1, S2, S3, S4, S5, S6, S7, S8, S9, S10, S11, S12, S13, S14, S15, opv, opvs, eget, env0, setD, lenStr, lenSl, isNilP, isNilS, putAt, if_true, if_false, reduceCtorEq, Nat.reduceLeDiff, Nat.reduceEqDiff, Nat.reduceSub, Nat.reduceMul, Nat.reduceAdd]
        refine lk_s ⟨k + 1, c, es⟩ (by simp) (Nat.le_succ _) (by simp only [List.append_assoc, List.cons_append, List.nil_append]; rfl) (by simp only; omega) (hIn c es [] [] hn rfl rfl) (hlt.store c hσ) (by simp [ltE, keep, eget, V.lt]; omega) rfl
      · have f1 : decide (index ≥ 1) = false := by simp; omega
        simp -implicitDefEqProofs only [f1, cond_t, cond_f, more, List.length_map, S0, S1, S2, S3, S4, S5, S6, S7, S8, S9, S10, S11, S12, S13, S14, S15, opv, opvs, eget, env0, setD, lenStr, lenSl, isNilP, isNilS, putAt, if_true, if_false, reduceCtorEq, Nat.reduceLeDiff, Nat.reduceEqDiff, Nat.reduceSub, Nat.reduceMul, Nat.reduceAdd]
        refine lk_s ⟨k + 1, c, es⟩ (by simp) (Nat.le_succ _) (by simp only [List.append_assoc, List.cons_append, List.nil_append]; rfl) (by simp only; omega) (hIn c es [] [] hn rfl rfl) (hlt.store c hσ) (by simp [ltE, keep, eget, V.lt]; omega) rfl
  · have hkk := end_of h1 hk
    subst hkk
    rw [List.take_length] at hnw
    simp -implicitDefEqProofs only [S0, S1, S2, S3, S4, S5, S6, S7, S8, S9, S10, S11, S12, S13, S14, S15, opv, opvs, eget, env0, setD, lenStr, lenSl, isNilP, isNilS, putAt, if_true, if_false, reduceCtorEq, Nat.reduceLeDiff, Nat.reduceEqDiff, Nat.reduceSub, Nat.reduceMul, Nat.reduceAdd]
    refine fin ?_
    rw [majR, maj_none]
    · rfl
    · intro r hr s hs
      have h0 := slots_nn hv hr hs
      simp only [winP, Bool.and_eq_false_iff, Bool.not_eq_false', decide_eq_true_eq, decide_eq_false_iff_not]
      by_cases hz : s.Ballot = 0
      · exact .inl hz
      · right
        have := hnw (keyS s) (by simp only [keyS]; omega)
        omega
def majRes (w : RecWorld) (index : Int) : List UInt8 × Bool := if worldOk w = true then majR w index else ([], false)
def c_spec_RecMajor : C := (.seq (.ops [⟨(some 2), none, (.box (.t 0))⟩, ⟨(some 4), none, (.mv (.c (.t (.str []))))⟩, ⟨(some 5), none, (.mv (.c (.t (.bool false))))⟩]) (.seq (.seq (.ops [⟨(some 6), none, (.load (some 3) (.t 2))⟩, ⟨(some 7), none, (.call (.c (.fn (.func 58) [])) [(.t 6)])⟩, ⟨(some 8), none, (.un .not (.t 7))⟩]) (.cond (.t 8) (.seq (.ops [⟨(some 4), none, (.mv (.c (.t (.str []))))⟩, ⟨(some 5), none, (.mv (.c (.t (.bool false))))⟩]) .ret) .skip)) (.seq (.ops [⟨(some 9), none, (.load (some 3) (.t 2))⟩, ⟨(some 10), none, (.mv (.t 1))⟩, ⟨(some 11), none, (.call (.c (.fn (.func 124) [])) [(.t 9), (.t 10)])⟩, ⟨(some 12), none, (.extract (.t 11) 0)⟩, ⟨(some 13), none, (.extract (.t 11) 1)⟩, ⟨(some 4), none, (.mv (.t 12))⟩, ⟨(some 5), none, (.mv (.t 13))⟩]) .ret)))
theorem k_spec_RecMajor : comp Try.prog 14 (Try.f61.body.getD .skip) = some c_spec_RecMajor := by kernel_rfl

theorem spec_RecMajor (w : RecWorld) (hw : w.Ok) (index : Int) (hi : i64r index) (σ : Store) : ACalls Try.prog 61 [.agg w.vs, .t (.int .i64 index)] σ fun rr σ' => rr = majV (majRes w index) ∧ σ' = σ := by
  refine acalls_of Try.func61 (by decide +kernel) (code := Try.f61.body.getD .skip) (n := 14) (c := c_spec_RecMajor) (rs := [(.tmp 4), (.tmp 5)]) rfl rfl k_spec_RecMajor (by kernel_rfl) (by simp) (fun hσ => ?_)
  simp -implicitDefEqProofs only [c_spec_RecMajor, RecWorld.vs, S0, S1, S2, S3, S4, S5, S6, S7, S8, S9, S10, S11, S12, S13, S14, S15, opv, opvs, eget, env0, setD, lenStr, lenSl, isNilP, isNilS, putAt, if_true, if_false, reduceCtorEq, Nat.reduceLeDiff, Nat.reduceEqDiff, Nat.reduceSub, Nat.reduceMul, Nat.reduceAdd]
  refine call_pure (spec_RecWorldOk w hw _) ?_
  simp -implicitDefEqProofs only [S0, S1, S2, S3, S4, S5, S6, S7, S8, S9, S10, S11, S12, S13, S14, S15, opv, opvs, eget, env0, setD, lenStr, lenSl, isNilP, isNilS, putAt, if_true, if_false, reduceCtorEq, Nat.reduceLeDiff, Nat.reduceEqDiff, Nat.reduceSub, Nat.reduceMul, Nat.reduceAdd]
  refine cond_split (fun h => ?_) (fun h => ?_)
  · have hv : worldOk w = false := by simpa using h
    simp -implicitDefEqProofs only [S0, S1, S2, S3, S4, S5, S6, S7, S8, S9, S10, S11, S12, S13, S14, S15, opv, opvs, eget, env0, setD, lenStr, lenSl, isNilP, isNilS, putAt, if_true, if_false, reduceCtorEq, Nat.reduceLeDiff, Nat.reduceEqDiff, Nat.reduceSub, Nat.reduceMul, Nat.reduceAdd]
    refine ret_same rfl hσ rfl ⟨?_, rfl⟩
    simp only [majRes, hv, Bool.false_eq_true, if_false]; rfl
  · have hv : worldOk w = true := by simpa using h
    simp -implicitDefEqProofs only [S0, S1, S2, S3, S4, S5, S6, S7, S8, S9, S10, S11, S12, S13, S14, S15, opv, opvs, eget, env0, setD, lenStr, lenSl, isNilP, isNilS, putAt, if_true, if_false, reduceCtorEq, Nat.reduceLeDiff, Nat.reduceEqDiff, Nat.reduceSub, Nat.reduceMul, Nat.reduceAdd]
    refine call_pure (spec_l27Major w hw index hi _) ?_
    simp -implicitDefEqProofs only [majV, S0, S1, S2, S3, S4, S5, S6, S7, S8, S9, S10, S11, S12, S13, S14, S15, opv, opvs, eget, env0, setD, lenStr, lenSl, isNilP, isNilS, putAt, if_true, if_false, reduceCtorEq, Nat.reduceLeDiff, Nat.reduceEqDiff, Nat.reduceSub, Nat.reduceMul, Nat.reduceAdd]
    refine ret_same rfl hσ rfl ⟨?_, rfl⟩
    simp only [majRes, hv, if_true]; rfl
def c_impl_RecMajor : C := (.seq (.ops [⟨(some 2), none, (.box (.t 0))⟩, ⟨(some 4), none, (.mv (.c (.t (.str []))))⟩, ⟨(some 5), none, (.mv (.c (.t (.bool false))))⟩]) (.seq (.seq (.ops [⟨(some 6), none, (.load (some 3) (.t 2))⟩, ⟨(some 7), none, (.call (.c (.fn (.func 60) [])) [(.t 6)])⟩, ⟨(some 8), none, (.un .not (.t 7))⟩]) (.cond (.t 8) (.seq (.ops [⟨(some 4), none, (.mv (.c (.t (.str []))))⟩, ⟨(some 5), none, (.mv (.c (.t (.bool false))))⟩]) .ret) .skip)) (.seq (.ops [⟨(some 9), none, (.mv (.t 1))⟩, ⟨(some 10), none, (.call (.c (.fn (.func 125) [])) [(.t 2), (.t 9)])⟩, ⟨(some 11), none, (.extract (.t 10) 0)⟩, ⟨(some 12), none, (.extract (.t 10) 1)⟩, ⟨(some 4), none, (.mv (.t 11))⟩, ⟨(some 5), none, (.mv (.t 12))⟩]) .ret)))
theorem k_impl_RecMajor : comp Try.prog 13 (Try.f62.body.getD .skip) = some c_impl_RecMajor := by kernel_rfl

theorem impl_RecMajor (w : RecWorld) (hw : w.Ok) (index : Int) (hi : i64r index) (σ : Store) : ACalls Try.prog 62 [.agg w.vs, .t (.int .i64 index)] σ fun rr σ' => rr = majV (majRes w index) ∧ σ' = σ := by
  refine acalls_of Try.func62 (by decide +kernel) (code := Try.f62.body.getD .skip) (n := 13) (c := c_impl_RecMajor) (rs := [(.tmp 4), (.tmp 5)]) rfl rfl k_impl_RecMajor (by kernel_rfl) (by simp) (fun hσ => ?_)
  simp -implicitDefEqProofs only [c_impl_RecMajor, RecWorld.vs, S0, S1, S2, S3, S4, S5, S6, S7, S8, S9, S10, S11, S12, S13, S14, S15, opv, opvs, eget, env0, setD, lenStr, lenSl, isNilP, isNilS, putAt, if_true, if_false, reduceCtorEq, Nat.reduceLeDiff, Nat.reduceEqDiff, Nat.reduceSub, Nat.reduceMul, Nat.reduceAdd]
  refine call_pure (impl_RecWorldOk w hw _) ?_
  simp -implicitDefEqProofs only [S0, S1, S2, S3, S4, S5, S6, S7, S8, S9, S10, S11, S12, S13, S14, S15, opv, opvs, eget, env0, setD, lenStr, lenSl, isNilP, isNilS, putAt, if_true, if_false, reduceCtorEq, Nat.reduceLeDiff, Nat.reduceEqDiff, Nat.reduceSub, Nat.reduceMul, Nat.reduceAdd]
  refine cond_split (fun h => ?_) (fun h => ?_)
  · have hv : worldOk w = false := by simpa using h
    simp -implicitDefEqProofs only [S0, S1, S2, S3, S4, S5, S6, S7, S8, S9, S10, S11, S12, S13, S14, S15, opv, opvs, eget, env0, setD, lenStr, lenSl, isNilP, isNilS, putAt, if_true, if_false, reduceCtorEq, Nat.reduceLeDiff, Nat.reduceEqDiff, Nat.reduceSub, Nat.reduceMul, Nat.reduceAdd]
    refine ret_same rfl hσ rfl ⟨?_, rfl⟩
    simp only [majRes, hv, Bool.false_eq_true, if_false]; rfl
  · have hv : worldOk w = true := by simpa using h
    simp -implicitDefEqProofs only [S0, S1, S2, S3, S4, S5, S6, S7, S8, S9, S10, S11, S12, S13, S14, S15, opv, opvs, eget, env0, setD, lenStr, lenSl, isNilP, isNilS, putAt, if_true, if_false, reduceCtorEq, Nat.reduceLeDiff, Nat.reduceEqDiff, Nat.reduceSub, Nat.reduceMul, Nat.reduceAdd]
    refine call_pure (impl_major w hw hv index hi _ _ (by simp)) ?_
    simp -implicitDefEqProofs only [majV, S0, S1, S2, S3, S4, S5, S6, S7, S8, S9, S10, S11, S12, S13, S14, S15, opv, opvs, eget, env0, setD, lenStr, lenSl, isNilP, isNilS, putAt, if_true, if_false, reduceCtorEq, Nat.reduceLeDiff, Nat.reduceEqDiff, Nat.reduceSub, Nat.reduceMul, Nat.reduceAdd]
    refine ret_same rfl hσ rfl ⟨?_, rfl⟩
    simp only [majRes, hv, if_true]; rfl
end Go.Proofs.Ytleilaipdhmgeaa.W
