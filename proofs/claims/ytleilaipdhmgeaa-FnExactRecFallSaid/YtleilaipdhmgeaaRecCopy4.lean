/- The program's copy of a recorder. Conditions: none. -/
import Derived.Test.YtleilaipdhmgeaaRecCopy2
import Derived.Test.YtleilaipdhmgeaaAbZc
set_option linter.unusedSimpArgs false
set_option linter.unusedVariables false
set_option linter.defProp false
open Go Go.Ab
set_option maxHeartbeats 4000000
namespace Go.Proofs.Ytleilaipdhmgeaa.W
def c_impl_clone_rec : C := (.seq (.ops [⟨(some 1), none, (.box (.t 0))⟩, ⟨(some 2), none, (.new [(.t (.int .i64 0)), (.t (.int .i64 0)), (.t (.bool false)), (.t (.int .i64 0)), (.t (.int .i64 0)), .nils, (.t (.int .i64 0)), (.t (.int .i64 0)), .nils, .nils, .nils, (.t (.bool false)), (.t (.bool false)), (.t (.int .i64 0)), .nils, .nils, .nils, (.t (.int .i64 0))])⟩]) (.seq (.drawn [(.mk 0 false ⟨(some 6), none, (.fieldAddr 3 (.t 1))⟩), (.mk 1 false ⟨(some 7), none, (.load (some 3) (.t 6))⟩), (.mk 3 false ⟨(some 9), none, (.fieldAddr 6 (.t 1))⟩), (.mk 4 false ⟨(some 10), none, (.load (some 3) (.t 9))⟩), (.mk 2 true ⟨(some 8), none, (.call (.c (.fn (.func 153) [])) [(.t 7)])⟩), (.mk 6 false ⟨(some 12), none, (.fieldAddr 3 (.t 1))⟩), (.mk 5 false ⟨(some 11), none, (.call (.c (.fn (.func 153) [])) [(.t 10)])⟩), (.mk 7 false ⟨none, none, (.store 3 (.t 12) (.t 8))⟩), (.mk 8 false ⟨(some 13), none, (.fieldAddr 6 (.t 1))⟩), (.mk 9 false ⟨none, none, (.store 3 (.t 13) (.t 11))⟩)]) (.seq (.ops [⟨(some 14), none, (.fieldAddr 9 (.t 1))⟩, ⟨(some 15), none, (.load none (.t 14))⟩, ⟨(some 16), none, (.call (.c (.fn (.func 154) [])) [(.t 15)])⟩, ⟨(some 17), none, (.fieldAddr 9 (.t 1))⟩, ⟨none, none, (.store 1 (.t 17) (.t 16))⟩]) (.seq (.ops [⟨(some 18), none, (.fieldAddr 10 (.t 1))⟩, ⟨(some 19), none, (.load none (.t 18))⟩, ⟨(some 20), none, (.append 1 16 (.c .nils) (.t 19))⟩, ⟨(some 21), none, (.fieldAddr 10 (.t 1))⟩, ⟨none, none, (.store 1 (.t 21) (.t 20))⟩]) (.seq (.ops [⟨(some 22), none, (.fieldAddr 14 (.t 1))⟩, ⟨(some 23), none, (.load none (.t 22))⟩, ⟨(some 24), none, (.append 1 8 (.c .nils) (.t 23))⟩, ⟨(some 25), none, (.fieldAddr 14 (.t 1))⟩, ⟨none, none, (.store 1 (.t 25) (.t 24))⟩]) (.seq (.ops [⟨(some 26), none, (.fieldAddr 15 (.t 1))⟩, ⟨(some 27), none, (.load none (.t 26))⟩, ⟨(some 28), none, (.call (.c (.fn (.func 155) [])) [(.t 27)])⟩, ⟨(some 29), none, (.fieldAddr 15 (.t 1))⟩, ⟨none, none, (.store 1 (.t 29) (.t 28))⟩]) (.seq (.ops [⟨(some 3), none, (.mv (.c .nils))⟩]) (.seq (.seq (.ops [⟨(some 30), none, (.fieldAddr 16 (.t 1))⟩, ⟨(some 31), none, (.load none (.t 30))⟩, ⟨(some 32), none, (.len false (.t 31))⟩, ⟨(some 33), none, (.mv (.c (.t (.int .i64 0))))⟩]) (.block 0 (.loop (.seq (.ops [⟨(some 34), none, (.bin .lss (.t 33) (.t 32))⟩]) (.seq (.cond (.t 34) .skip (.exit 0)) (.seq (.block 1 (.seq (.ops [⟨(some 35), none, (.indexAddr 2 (.t 31) (.t 33))⟩, ⟨(some 36), none, (.load (some 2) (.t 35))⟩, ⟨(some 5), none, (.new [(.t (.int .i64 0)), .nils])⟩, ⟨none, none, (.store 2 (.t 5) (.t 36))⟩]) (.drawn [(.mk 0 false ⟨(some 37), none, (.mv (.t 3))⟩), (.mk 1 false ⟨(some 38), none, (.fieldAddr 0 (.t 5))⟩), (.mk 2 false ⟨(some 39), none, (.load none (.t 38))⟩), (.mk 3 false ⟨(some 40), none, (.fieldAddr 1 (.t 5))⟩), (.mk 4 false ⟨(some 41), none, (.load none (.t 40))⟩), (.mk 5 true ⟨(some 42), none, (.append 1 8 (.c .nils) (.t 41))⟩), (.mk 6 false ⟨(some 43), none, (.build [(.t (.int .i64 0)), .nils] [⟨0, ⟨1, (.t 39)⟩⟩, ⟨1, ⟨1, (.t 42)⟩⟩])⟩), (.mk 7 false ⟨(some 44), none, (.lit (some false) 2 1 [(.t (.int .i64 0)), .nils] [⟨0, (.t 43)⟩])⟩), (.mk 8 false ⟨(some 45), none, (.append 2 32 (.t 37) (.t 44))⟩), (.mk 9 true ⟨(some 3), none, (.mv (.t 45))⟩)]))) (.ops [⟨(some 46), none, (.bin .add (.t 33) (.c (.t (.int .i64 1))))⟩, ⟨(some 33), none, (.mv (.t 46))⟩]))))))) (.seq (.ops [⟨(some 47), none, (.mv (.t 3))⟩, ⟨(some 48), none, (.fieldAddr 16 (.t 1))⟩, ⟨none, none, (.store 1 (.t 48) (.t 47))⟩]) (.seq (.ops [⟨(some 49), none, (.load (some 18) (.t 1))⟩, ⟨none, none, (.store 18 (.t 2) (.t 49))⟩]) .ret))))))))))
theorem k_impl_clone_rec : comp Try.prog 50 (Try.f127.body.getD .skip) = some c_impl_clone_rec := by kernel_rfl

theorem str_flat (l : List (List UInt8)) : ∀ r ∈ l.map tStr, ∀ t ∈ r, scalar t = true := by
  intro r hr t ht
  obtain ⟨x, _, rfl⟩ := List.mem_map.1 hr
  simp only [tStr, List.mem_cons, List.not_mem_nil, or_false] at ht
  subst ht; rfl
theorem int_flat (l : List Int) : ∀ r ∈ l.map tInt, ∀ t ∈ r, scalar t = true := by
  intro r hr t ht
  obtain ⟨x, _, rfl⟩ := List.mem_map.1 hr
  simp only [tInt, List.mem_cons, List.not_mem_nil, or_false] at ht
  subst ht; rfl
theorem list3z {l : List V} (h : l.length = 3) : ∃ u0 u1 u2, l = [u0, u1, u2] := by
  match l, h with
  | [u0, u1, u2], _ => exact ⟨u0, u1, u2, rfl⟩
theorem own3 {s : Store} {a b : Int} {t : T} {us : List V} {is : List Nat} (h : OwnL s [.int .i64 a, .int .i64 b, t] us is) : ∃ u, us = [.t (.int .i64 a), .t (.int .i64 b), u] ∧ Own s t u is := by
  simp only [OwnL, Own] at h
  obtain ⟨_, _, _, _, rfl, rfl, ⟨rfl, rfl⟩, _, _, _, _, rfl, rfl, ⟨rfl, rfl⟩, u, _, i, j, rfl, rfl, h1, rfl, rfl⟩ := h
  exact ⟨u, rfl, by simpa using h1⟩
theorem impl_clone_rec (r : Recorder) (hr : r.Ok) (σ : Store) : ACalls Try.prog 127 [.agg r.vs] σ (ToLR r.ts σ) := by
  refine acalls_of Try.func127 (by decide +kernel) (code := Try.f127.body.getD .skip) (n := 50) (c := c_impl_clone_rec) (rs := [(.cell 2 (some 18))]) rfl rfl k_impl_clone_rec (by kernel_rfl) (by simp) (fun hσ => ?_)
  have y1 := hr.Wishes.1
  have y2 := hr.Yes.1
  have y3 := hr.Acks.1
  have b1 : r.Wishes.length * 16 ≤ maxBy := by simp only [maxBy]; omega
  have b2 : r.Wishes.length ≤ 9223372036854775807 := by omega
  have b3 : r.Yes.length * 8 ≤ maxBy := by simp only [maxBy]; omega
  have b4 : r.Yes.length ≤ 9223372036854775807 := by omega
  simp -implicitDefEqProofs only [c_impl_clone_rec, Recorder.vs, S0, S1, S2, S3, S4, S5, S6, S7, S8, S9, S10, S11, S12, S13, S14, S15, opv, opvs, eget, env0, setD, lenStr, lenSl, isNilP, isNilS, putAt, if_true, if_false, reduceCtorEq, Nat.reduceLeDiff, Nat.reduceEqDiff, Nat.reduceSub, Nat.reduceMul, Nat.reduceAdd]
  refine call_by (by rw [List.append_nil]; exact impl_cloneDisk r.Safe hr.Safe _) ?_
  rintro v σ' ⟨us, τ1, i1, rfl, rfl, o1, w1⟩
  obtain ⟨u1, rfl, O1⟩ := own3 o1
  clear o1
  have e1 := O1.one
  simp -implicitDefEqProofs only [e1, S0, S1, S2, S3, S4, S5, S6, S7, S8, S9, S10, S11, S12, S13, S14, S15, opv, opvs, eget, env0, setD, lenStr, lenSl, isNilP, isNilS, putAt, if_true, if_false, reduceCtorEq, Nat.reduceLeDiff, Nat.reduceEqDiff, Nat.reduceSub, Nat.reduceMul, Nat.reduceAdd]
  refine call_by (by rw [List.append_nil]; exact impl_cloneDisk r.Disk hr.Disk _) ?_
  rintro v σ' ⟨us, τ2, i2, rfl, rfl, o2, w2⟩
  obtain ⟨u2, rfl, O2⟩ := own3 o2
  clear o2
  have e2 := O2.one
  simp -implicitDefEqProofs only [e1, e2, S0, S1, S2, S3, S4, S5, S6, S7, S8, S9, S10, S11, S12, S13, S14, S15, opv, opvs, eget, env0, setD, lenStr, lenSl, isNilP, isNilS, putAt, if_true, if_false, reduceCtorEq, Nat.reduceLeDiff, Nat.reduceEqDiff, Nat.reduceSub, Nat.reduceMul, Nat.reduceAdd]
  refine call_by (by rw [List.append_nil]; exact impl_cloneMessages r.Held hr.Held _) ?_
  rintro u3 σ' ⟨τ3, i3, rfl, o3, w3⟩
  have e3 := o3.one
  simp -implicitDefEqProofs only [e1, e2, e3, one_cells e3, List.length_map, b1, b2, b3, b4, S0, S1, S2, S3, S4, S5, S6, S7, S8, S9, S10, S11, S12, S13, S14, S15, opv, opvs, eget, env0, setD, lenStr, lenSl, isNilP, isNilS, putAt, if_true, if_false, reduceCtorEq, Nat.reduceLeDiff, Nat.reduceEqDiff, Nat.reduceSub, Nat.reduceMul, Nat.reduceAdd]
  refine call_by (by rw [List.append_nil]; exact impl_cloneSlots r.Best hr.Best.1 _) ?_
  rintro u4 σ' ⟨τ4, i4, rfl, o4, w4⟩
  have e4 := o4.one
  simp -implicitDefEqProofs only [e1, e2, e3, one_cells e3, e4, one_cells e4, List.length_map, b1, b2, b3, b4, S0, S1, S2, S3, S4, S5, S6, S7, S8, S9, S10, S11, S12, S13, S14, S15, opv, opvs, eget, env0, setD, lenStr, lenSl, isNilP, isNilS, putAt, if_true, if_false, reduceCtorEq, Nat.reduceLeDiff, Nat.reduceEqDiff, Nat.reduceSub, Nat.reduceMul, Nat.reduceAdd]
  refine loop_g [3, 33, 1, 2, 31, 32] [1, 2, 31, 32] (fun g : Ga => [(3, g.v), (33, .t (.int .i64 (g.k : Nat)))]) Ga.s (OI _ 2 (r.Acks.map RecAck.ts)) (fun g => r.Acks.length - g.k) ⟨0, .nils, _, []⟩ (by simp) (OI.nil (by omega)) rfl rfl ?_
  rintro ⟨k, v, s, is⟩ ⟨hk, hl, hkp, ho, hv, hw⟩
  simp only [List.length_map] at hk hl hkp ho hv hw
  simp -implicitDefEqProofs only [keep, List.length_map, S0, S1, S2, S3, S4, S5, S6, S7, S8, S9, S10, S11, S12, S13, S14, S15, opv, opvs, eget, env0, setD, lenStr, lenSl, isNilP, isNilS, putAt, if_true, if_false, reduceCtorEq, Nat.reduceLeDiff, Nat.reduceEqDiff, Nat.reduceSub, Nat.reduceMul, Nat.reduceAdd]
  refine cond_split (fun h1 => ?_) (fun h1 => ?_)
  · obtain ⟨x, hx, hlt⟩ := at_of h1
    have hx' : (r.Acks.map RecAck.ts)[k]? = some x.ts := by rw [List.getElem?_map, hx]; rfl
    have hok := hr.Acks.2 x (mem_at hx)
    have hf := hok.From.1
    have more := i64_succ (show k < 4611686018427387904 by omega)
    have c1 : 0 < 1 := by omega
    have b5 : x.From.length * 8 ≤ maxBy := by simp only [maxBy]; omega
    have b6 : x.From.length ≤ 9223372036854775807 := by omega
    simp -implicitDefEqProofs only [hx, c1, b5, b6, nat_nn, List.getElem?_map, Option.map_some, RecAck.ts, List.length_map, S0, S1, S2, S3, S4, S5, S6, S7, S8, S9, S10, S11, S12, S13, S14, S15, opv, opvs, eget, env0, setD, lenStr, lenSl, isNilP, isNilS, putAt, if_true, if_false, reduceCtorEq, Nat.reduceLeDiff, Nat.reduceEqDiff, Nat.reduceSub, Nat.reduceMul, Nat.reduceAdd]
    have hrow : (([[V.t (.int .i64 x.Index), V.sl (s.length + 1) x.From.length 0 x.From.length]] : List (List V)).all fun r => r.all one) = true := rfl
    simp -implicitDefEqProofs only [q_rows_r _ _ hrow, S0, S1, S2, S3, S4, S5, S6, S7, S8, S9, S10, S11, S12, S13, S14, S15, opv, opvs, eget, env0, setD, lenStr, lenSl, isNilP, isNilS, putAt, if_true, if_false, reduceCtorEq, Nat.reduceLeDiff, Nat.reduceEqDiff, Nat.reduceSub, Nat.reduceMul, Nat.reduceAdd]
    have hfl : Own (s ++ [Go.Ab.Obj.box [V.t (T.int IntKind.i64 x.Index), V.t (T.lst 1 (List.map tInt x.From))], Go.Ab.Obj.slc 1 (List.map (fun r => List.map V.t r) (List.map tInt x.From))]) (.lst 1 (x.From.map tInt)) (V.sl (s.length + 1) x.From.length 0 x.From.length) [s.length + 1] := by
      have := own_rows (σ := s ++ [Go.Ab.Obj.box [V.t (T.int IntKind.i64 x.Index), V.t (T.lst 1 (List.map tInt x.From))], Go.Ab.Obj.slc 1 (List.map (fun r => List.map V.t r) (List.map tInt x.From))]) (id := s.length + 1) (n := 1) (by omega) (int_flat x.From) (by simp)
      simpa using this
    refine app_own ((Kp.app s _).own ho) hv (hw.mono (Nat.le_refl _) (by simp)) (r := x.ts) (OwnL.int (OwnL.lst hfl OwnL.nil0)) (js := [s.length + 1] ++ []) (by
      rw [List.append_nil]
      exact (wi_one _).mono (by omega) (by simp)) (fun i hi => by have := hw.2 i hi; simp; omega) (Nat.le_trans hl (by simp)) (by simp only [maxBy, List.length_take, List.length_map]; omega) (by simp only [List.length_take, List.length_map]; omega) ?_
    rintro v' s' is' hl' kb ho' hv' hw'
    simp -implicitDefEqProofs only [more, S0, S1, S2, S3, S4, S5, S6, S7, S8, S9, S10, S11, S12, S13, S14, S15, opv, opvs, eget, env0, setD, lenStr, lenSl, isNilP, isNilS, putAt, if_true, if_false, reduceCtorEq, Nat.reduceLeDiff, Nat.reduceEqDiff, Nat.reduceSub, Nat.reduceMul, Nat.reduceAdd]
    refine lk_g ⟨k + 1, v', s', is'⟩ (by simp only; omega) ?_ (by simp only [List.length_append, List.length_cons] at hl hl' ⊢; omega) rfl rfl
    exact OI.next (kp_app2 hkp) (by simp only [List.length_append, List.length_cons] at hl ⊢; omega) hx' kb hw hl' ho' hv' hw'
  · have hkk := end_of h1 (by simpa using hk)
    have e5 := hkp σ.length (by simp)
    have e6 := hkp (σ.length + 1) (by simp)
    have hsl : σ.length + 2 ≤ s.length := by simp only [List.length_append, List.length_cons] at hl; omega
    simp -implicitDefEqProofs only [S0, S1, S2, S3, S4, S5, S6, S7, S8, S9, S10, S11, S12, S13, S14, S15, opv, opvs, eget, env0, setD, lenStr, lenSl, isNilP, isNilS, putAt, if_true, if_false, reduceCtorEq, Nat.reduceLeDiff, Nat.reduceEqDiff, Nat.reduceSub, Nat.reduceMul, Nat.reduceAdd] at e5 e6
    rw [hkk, List.take_of_length_le (by simp)] at ho
    have e7 := ho.one
    simp -implicitDefEqProofs only [e5, one_cells e7, e7, List.getElem?_set_self (show σ.length < s.length by omega), List.getElem?_set_ne (show σ.length ≠ σ.length + 1 by omega), set2_self (l := s) (show σ.length + 1 < s.length by omega), e6, e1, e2, e3, e4, S0, S1, S2, S3, S4, S5, S6, S7, S8, S9, S10, S11, S12, S13, S14, S15, opv, opvs, eget, env0, setD, lenStr, lenSl, isNilP, isNilS, putAt, if_true, if_false, reduceCtorEq, Nat.reduceLeDiff, Nat.reduceEqDiff, Nat.reduceSub, Nat.reduceMul, Nat.reduceAdd]
    have W1 := w1
    have W2 := w2
    have W3 := w3
    have W4 := w4
    simp only [List.length_append, List.length_cons, List.length_nil] at w1 w2 w3 w4 hl hw
    have E := fun (o : Nat) => hkp (σ.length + o)
    have wv : Wi ([σ.length + (τ1.length + (τ2.length + (τ3.length + 2)))] : List Nat) (σ.length + (τ1.length + (τ2.length + (τ3.length + 2)))) (σ.length + (τ1.length + (τ2.length + (τ3.length + 3)))) := (wi_one _).mono (Nat.le_refl _) (by omega)
    have wy : Wi ([σ.length + (τ1.length + (τ2.length + (τ3.length + 3)))] : List Nat) (σ.length + (τ1.length + (τ2.length + (τ3.length + 3)))) (σ.length + (τ1.length + (τ2.length + (τ3.length + 4)))) := (wi_one _).mono (Nat.le_refl _) (by omega)
    refine fin_keep (by simp only [List.length_set]; omega) ⟨_, _, i1 ++ (i2 ++ (i3 ++ ([σ.length + (τ1.length + (τ2.length + (τ3.length + 2)))] ++ ([σ.length + (τ1.length + (τ2.length + (τ3.length + 3)))] ++ (i4 ++ (is ++ [])))))), rfl, kp_split (((Kp.trans (Kp.app _ _) (by simp) hkp).set (Nat.le_refl _)).set (by omega)) (by simp only [List.length_set]; omega), ?_, ?_⟩
    · simp only [Recorder.ts]
      refine .int (.int (.bool (.int (.int (.lst (set_own (set_own (hkp.own (own_pre (A := [_, _]) (A' := [_, _]) (B := τ1) O1 W1 (List.append_assoc ..) rfl (by simp) (by simp) (by simp only [List.length_append, List.length_cons, List.length_nil]; omega))) (wi_out w1 (by omega))) (wi_out w1 (by omega)))
        (.int (.int (.lst (set_own (set_own (hkp.own (own_pre (A := [_, _]) (A' := [_, _]) (B := τ1 ++ τ2) O2 W2 (List.append_assoc ..) rfl (by simp) (by simp) (by simp only [List.length_append, List.length_cons, List.length_nil]; omega))) (wi_out w2 (by omega))) (wi_out w2 (by omega)))
        (.lst (set_own (set_own (hkp.own (own_pre (A := [_, _]) (A' := [_, _]) (B := (τ1 ++ τ2) ++ τ3) o3 W3 (List.append_assoc ..) rfl (by simp) (by simp) (by simp only [List.length_append, List.length_cons, List.length_nil]; omega))) (wi_out w3 (by omega))) (wi_out w3 (by omega)))
        (.lst (set_own (set_own ?_ (wi_out wv (by omega))) (wi_out wv (by omega)))
        (.bool (.bool (.int (.lst (set_own (set_own ?_ (wi_out wy (by omega))) (wi_out wy (by omega)))
        (.lst (set_own (set_own (hkp.own (own_pre (A := [_, _]) (A' := [_, _]) (B := (τ1 ++ (τ2 ++ (τ3 ++ [_, _]))) ++ τ4) o4 W4 (List.append_assoc ..) rfl (by simp) (by simp) (by simp only [List.length_append, List.length_cons, List.length_nil]; omega))) (wi_out w4 (by omega))) (wi_out w4 (by omega)))
        (.lst (set_own (set_own ho (wi_out hw (by omega))) (wi_out hw (by omega)))
        (.int .nil0)))))))))))))))))
      · have := own_rows (σ := s) (id := σ.length + (τ1.length + (τ2.length + (τ3.length + 2)))) (n := 1) (by omega) (str_flat r.Wishes) (by
          have := hkp (σ.length + (τ1.length + (τ2.length + (τ3.length + 2)))) (by simp; omega)
          simp -implicitDefEqProofs only [S0, S1, S2, S3, S4, S5, S6, S7, S8, S9, S10, S11, S12, S13, S14, S15, opv, opvs, eget, env0, setD, lenStr, lenSl, isNilP, isNilS, putAt, if_true, if_false, reduceCtorEq, Nat.reduceLeDiff, Nat.reduceEqDiff, Nat.reduceSub, Nat.reduceMul, Nat.reduceAdd] at this
          exact this)
        simpa using this
      · have := own_rows (σ := s) (id := σ.length + (τ1.length + (τ2.length + (τ3.length + 3)))) (n := 1) (by omega) (int_flat r.Yes) (by
          have := hkp (σ.length + (τ1.length + (τ2.length + (τ3.length + 3)))) (by simp; omega)
          simp -implicitDefEqProofs only [S0, S1, S2, S3, S4, S5, S6, S7, S8, S9, S10, S11, S12, S13, S14, S15, opv, opvs, eget, env0, setD, lenStr, lenSl, isNilP, isNilS, putAt, if_true, if_false, reduceCtorEq, Nat.reduceLeDiff, Nat.reduceEqDiff, Nat.reduceSub, Nat.reduceMul, Nat.reduceAdd] at this
          exact this)
        simpa using this
    · simp only [List.length_set]
      exact wi_join w1 (wi_join (d' := s.length) w2 (wi_join (d' := s.length) w3 (wi_join (d' := s.length) wv (wi_join (d' := s.length) wy (wi_join (d' := s.length) w4 (wi_last hw (Nat.le_refl _) (Nat.le_refl _)) (by omega) (Nat.le_refl _) (by omega) (by omega) (by omega)) (by omega) (Nat.le_refl _) (by omega) (by omega) (by omega)) (by omega) (Nat.le_refl _) (by omega) (by omega) (by omega)) (by omega) (Nat.le_refl _) (by omega) (by omega) (by omega)) (by omega) (Nat.le_refl _) (by omega) (by omega) (by omega)) (by omega) (by omega) (by omega) (by omega) (by omega)
end Go.Proofs.Ytleilaipdhmgeaa.W
