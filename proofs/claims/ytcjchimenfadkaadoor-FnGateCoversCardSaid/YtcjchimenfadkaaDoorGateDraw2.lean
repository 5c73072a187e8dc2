/- Readers of codes: what they draw. Conditions: none. -/
/- What is drawn: words. Conditions: none. -/
/- The law of a session. Conditions: none. -/
import Derived.Test.YtcjchimenfadkaaDoorAb8
import Derived.Test.YtcjchimenfadkaaDoorTypesGateD
import Derived.Test.YtcjchimenfadkaaDoorGateUncT
set_option linter.unusedSimpArgs false
set_option linter.unusedVariables false
set_option linter.defProp false

section
open Go Go.Ab
set_option maxHeartbeats 2000000
namespace Go.Proofs.YtcjchimenfadkaaDoor.W
abbrev rdV (l : List UInt8) (p : Nat) : List V := [.t (.lst 1 (byteT l)), .t (.int .i64 (p : Nat))]
/-- A number that was drawn; the reader is one further. -/
def PickR (l : List UInt8) (p n id : Nat) (σ : Store) (r : V) (σ' : Store) : Prop := ∃ x : Nat, r = .t (.int .i64 (x : Nat)) ∧ x < n ∧ σ' = σ.set id (.box (rdV l (p + 1)))
def c___spec_l1Rd__pick : C := (.seq (.ops [⟨(some 4), none, (.mv (.c (.t (.int .i64 0))))⟩]) (.seq (.ops [⟨(some 7), none, (.mv (.t 0))⟩, ⟨(some 8), none, (.mv (.t 0))⟩, ⟨(some 9), none, (.nilCheck (.t 8))⟩, ⟨(some 10), none, (.fieldAddr 1 (.t 9))⟩, ⟨(some 11), none, (.load none (.t 10))⟩, ⟨(some 12), none, (.bin .add (.t 11) (.c (.t (.int .i64 1))))⟩, ⟨(some 13), none, (.nilCheck (.t 7))⟩, ⟨(some 14), none, (.fieldAddr 1 (.t 13))⟩, ⟨none, none, (.store 1 (.t 14) (.t 12))⟩]) (.seq (.seq (.ops [⟨(some 15), none, (.mv (.t 1))⟩, ⟨(some 16), none, (.bin .lss (.t 15) (.c (.t (.int .i64 1))))⟩, ⟨(some 17), none, (.mv (.t 16))⟩, ⟨(some 18), (some ⟨17, false⟩), (.mv (.t 0))⟩, ⟨(some 19), (some ⟨17, false⟩), (.nilCheck (.t 18))⟩, ⟨(some 20), (some ⟨17, false⟩), (.fieldAddr 0 (.t 19))⟩, ⟨(some 21), (some ⟨17, false⟩), (.load none (.t 20))⟩, ⟨(some 22), (some ⟨17, false⟩), (.len false (.t 21))⟩, ⟨(some 23), (some ⟨17, false⟩), (.bin .eql (.t 22) (.c (.t (.int .i64 0))))⟩, ⟨(some 24), none, (.pick (.t 17) (.c (.t (.bool true))) (.t 23))⟩]) (.cond (.t 24) (.seq (.ops [⟨(some 4), none, (.mv (.c (.t (.int .i64 0))))⟩]) .ret) .skip)) (.seq (.ops [⟨(some 25), none, (.mv (.t 0))⟩, ⟨(some 26), none, (.nilCheck (.t 25))⟩, ⟨(some 27), none, (.fieldAddr 1 (.t 26))⟩, ⟨(some 28), none, (.load none (.t 27))⟩, ⟨(some 29), none, (.bin .sub (.t 28) (.c (.t (.int .i64 1))))⟩, ⟨(some 5), none, (.mv (.t 29))⟩]) (.seq (.seq (.ops [⟨(some 30), none, (.mv (.t 5))⟩, ⟨(some 31), none, (.mv (.t 0))⟩, ⟨(some 32), none, (.nilCheck (.t 31))⟩, ⟨(some 33), none, (.fieldAddr 0 (.t 32))⟩, ⟨(some 34), none, (.load none (.t 33))⟩, ⟨(some 35), none, (.len false (.t 34))⟩, ⟨(some 36), none, (.bin .lss (.t 30) (.t 35))⟩]) (.cond (.t 36) (.seq (.ops [⟨(some 37), none, (.mv (.t 0))⟩, ⟨(some 38), none, (.nilCheck (.t 37))⟩, ⟨(some 39), none, (.fieldAddr 0 (.t 38))⟩, ⟨(some 40), none, (.load none (.t 39))⟩, ⟨(some 41), none, (.mv (.t 5))⟩, ⟨(some 42), none, (.indexAddr 1 (.t 40) (.t 41))⟩, ⟨(some 43), none, (.load none (.t 42))⟩, ⟨(some 44), none, (.convInt .i64 (.t 43))⟩, ⟨(some 45), none, (.mv (.t 1))⟩, ⟨(some 46), none, (.bin .rem (.t 44) (.t 45))⟩, ⟨(some 4), none, (.mv (.t 46))⟩]) .ret) .skip)) (.seq (.drawn [(.mk 0 false ⟨(some 47), none, (.mv (.t 0))⟩ []), (.mk 1 false ⟨(some 48), none, (.nilCheck (.t 47))⟩ []), (.mk 2 false ⟨(some 49), none, (.fieldAddr 0 (.t 48))⟩ []), (.mk 3 false ⟨(some 50), none, (.load none (.t 49))⟩ []), (.mk 4 false ⟨(some 51), none, (.mv (.t 5))⟩ []), (.mk 5 false ⟨(some 52), none, (.mv (.t 0))⟩ []), (.mk 6 false ⟨(some 53), none, (.nilCheck (.t 52))⟩ []), (.mk 7 false ⟨(some 54), none, (.fieldAddr 0 (.t 53))⟩ []), (.mk 8 false ⟨(some 55), none, (.load none (.t 54))⟩ []), (.mk 9 false ⟨(some 56), none, (.len false (.t 55))⟩ []), (.mk 10 false ⟨(some 57), none, (.bin .rem (.t 51) (.t 56))⟩ []), (.mk 11 false ⟨(some 58), none, (.indexAddr 1 (.t 50) (.t 57))⟩ []), (.mk 12 false ⟨(some 59), none, (.load none (.t 58))⟩ []), (.mk 13 false ⟨(some 60), none, (.convInt .i64 (.t 59))⟩ []), (.mk 14 false ⟨(some 61), none, (.bin .mul (.t 60) (.c (.t (.int .i64 131))))⟩ []), (.mk 15 false ⟨(some 62), none, (.mv (.t 0))⟩ []), (.mk 16 false ⟨(some 63), none, (.nilCheck (.t 62))⟩ []), (.mk 17 false ⟨(some 64), none, (.fieldAddr 0 (.t 63))⟩ []), (.mk 18 false ⟨(some 65), none, (.load none (.t 64))⟩ []), (.mk 19 false ⟨(some 66), none, (.mv (.t 5))⟩ []), (.mk 20 false ⟨(some 67), none, (.bin .mul (.t 66) (.c (.t (.int .i64 7))))⟩ []), (.mk 21 false ⟨(some 68), none, (.bin .add (.t 67) (.c (.t (.int .i64 3))))⟩ []), (.mk 22 false ⟨(some 69), none, (.mv (.t 0))⟩ []), (.mk 23 false ⟨(some 70), none, (.nilCheck (.t 69))⟩ []), (.mk 24 false ⟨(some 71), none, (.fieldAddr 0 (.t 70))⟩ []), (.mk 25 false ⟨(some 72), none, (.load none (.t 71))⟩ []), (.mk 26 false ⟨(some 73), none, (.len false (.t 72))⟩ []), (.mk 27 false ⟨(some 74), none, (.bin .rem (.t 68) (.t 73))⟩ []), (.mk 28 false ⟨(some 75), none, (.indexAddr 1 (.t 65) (.t 74))⟩ []), (.mk 29 false ⟨(some 76), none, (.load none (.t 75))⟩ []), (.mk 30 false ⟨(some 77), none, (.convInt .i64 (.t 76))⟩ []), (.mk 31 false ⟨(some 78), none, (.bin .mul (.t 77) (.c (.t (.int .i64 1117))))⟩ []), (.mk 32 false ⟨(some 79), none, (.bin .add (.t 61) (.t 78))⟩ []), (.mk 33 false ⟨(some 80), none, (.mv (.t 5))⟩ []), (.mk 34 false ⟨(some 81), none, (.bin .mul (.t 80) (.c (.t (.int .i64 29))))⟩ []), (.mk 35 false ⟨(some 82), none, (.bin .add (.t 79) (.t 81))⟩ []), (.mk 36 false ⟨(some 83), none, (.mv (.t 5))⟩ []), (.mk 37 false ⟨(some 84), none, (.mv (.t 0))⟩ []), (.mk 38 false ⟨(some 85), none, (.nilCheck (.t 84))⟩ []), (.mk 39 false ⟨(some 86), none, (.fieldAddr 0 (.t 85))⟩ []), (.mk 40 false ⟨(some 87), none, (.load none (.t 86))⟩ []), (.mk 41 false ⟨(some 88), none, (.len false (.t 87))⟩ []), (.mk 42 false ⟨(some 89), none, (.bin .quo (.t 83) (.t 88))⟩ []), (.mk 43 false ⟨(some 90), none, (.bin .mul (.t 89) (.c (.t (.int .i64 53))))⟩ []), (.mk 44 false ⟨(some 91), none, (.bin .add (.t 82) (.t 90))⟩ []), (.mk 45 false ⟨(some 6), none, (.mv (.t 91))⟩ [])]) (.seq (.ops [⟨(some 92), none, (.mv (.t 6))⟩, ⟨(some 93), none, (.mv (.t 6))⟩, ⟨(some 94), none, (.bin .quo (.t 93) (.c (.t (.int .i64 64))))⟩, ⟨(some 95), none, (.bin .xor (.t 92) (.t 94))⟩, ⟨(some 6), none, (.mv (.t 95))⟩]) (.seq (.ops [⟨(some 96), none, (.mv (.t 6))⟩, ⟨(some 97), none, (.mv (.t 1))⟩, ⟨(some 98), none, (.bin .rem (.t 96) (.t 97))⟩, ⟨(some 4), none, (.mv (.t 98))⟩]) .ret))))))))
theorem k___spec_l1Rd__pick : comp Tryd.prog 99 (Tryd.f63.body.getD .skip) = some c___spec_l1Rd__pick := by kernel_rfl

set_option maxRecDepth 20000 in
theorem pick_n (l : List UInt8) (hl : l.length ≤ 2000) (p n id : Nat) (hp : p < 1000000000) (hn : 1 ≤ n) (hn2 : n ≤ 1000000) (σ : Store) (hid : σ[id]? = some (.box (rdV l p))) : ACalls Tryd.prog 63 [.ptr id 0, .t (.int .i64 (n : Nat))] σ (PickR l p n id σ) := by
  refine acalls_of Tryd.func63 (by decide +kernel) (code := Tryd.f63.body.getD .skip) (n := 99) (c := c___spec_l1Rd__pick) (rs := [(.tmp 4)]) rfl rfl k___spec_l1Rd__pick (by kernel_rfl) (by simp) (fun hσ => ?_)
  have hidl := (List.getElem?_eq_some_iff.1 hid).1
  have s1 : ∀ o, (σ.set id o)[id]? = some o := fun o => List.getElem?_set_self hidl
  have more := i64_succ (show p < 4611686018427387904 by omega)
  have back : IntKind.i64.wrap (((p + 1 : Nat) : Int) - 1) = ((p : Nat) : Int) := by rw [IntWalk.i64_in _ (by omega)]; omega
  have n1 : decide (((n : Nat) : Int) < 1) = false := by simp; omega
  have n0 : ((((n : Nat) : Int)) ≠ 0) = True := eq_true (by omega)
  have bl : σ.length ≤ (σ.set id (.box (rdV l (p + 1)))).length := by rw [List.length_set]; exact Nat.le_refl _
  have fin : ∀ x : Nat, x < n → retV σ.length (PickR l p n id σ) (σ.set id (.box (rdV l (p + 1)))) (some [.t (.int .i64 (x : Nat))]) := fun x hx => fin_keep bl ⟨x, rfl, hx, rfl⟩
  simp -implicitDefEqProofs only [c___spec_l1Rd__pick, hid, s1, nat_nn, Nat.zero_le, List.length_map, byteT_len, more, n1, cond_t, cond_f, S0, S1, S2, S3, S4, S5, S6, S7, S8, S9, S10, S11, S12, S13, S14, S15, S16, S17, opv, opvs, eget, env0, setD, lenStr, lenSl, isNilP, isNilS, putAt, if_true, if_false, reduceCtorEq, Nat.reduceLeDiff, Nat.reduceEqDiff, Nat.reduceSub, Nat.reduceMul, Nat.reduceAdd]
  refine cond_split (fun h0 => ?_) (fun h0 => ?_)
  · simp -implicitDefEqProofs only [S0, S1, S2, S3, S4, S5, S6, S7, S8, S9, S10, S11, S12, S13, S14, S15, S16, S17, opv, opvs, eget, env0, setD, lenStr, lenSl, isNilP, isNilS, putAt, if_true, if_false, reduceCtorEq, Nat.reduceLeDiff, Nat.reduceEqDiff, Nat.reduceSub, Nat.reduceMul, Nat.reduceAdd]
    exact fin 0 (by omega)
  have hl0 : 1 ≤ l.length := by
    have : ¬ ((l.length : Nat) : Int) = 0 := by simpa using h0
    omega
  have l0 : ((((l.length : Nat) : Int)) ≠ 0) = True := eq_true (by omega)
  simp -implicitDefEqProofs only [hid, s1, nat_nn, Nat.zero_le, List.length_map, byteT_len, more, back, S0, S1, S2, S3, S4, S5, S6, S7, S8, S9, S10, S11, S12, S13, S14, S15, S16, S17, opv, opvs, eget, env0, setD, lenStr, lenSl, isNilP, isNilS, putAt, if_true, if_false, reduceCtorEq, Nat.reduceLeDiff, Nat.reduceEqDiff, Nat.reduceSub, Nat.reduceMul, Nat.reduceAdd]
  refine cond_split (fun h1 => ?_) (fun h1 => ?_)
  · have hpl : p < l.length := by simpa using h1
    have hc := byteT_at hpl
    have e1 : IntKind.i64.wrap ((l[p].toNat : Nat) : Int) = ((l[p].toNat : Nat) : Int) := IntWalk.i64_in _ (by have := l[p].toNat_lt; omega)
    simp -implicitDefEqProofs only [hid, s1, nat_nn, Nat.zero_le, List.length_map, byteT_len, more, back, hc, e1, n0, tmod_nat, S0, S1, S2, S3, S4, S5, S6, S7, S8, S9, S10, S11, S12, S13, S14, S15, S16, S17, opv, opvs, eget, env0, setD, lenStr, lenSl, isNilP, isNilS, putAt, if_true, if_false, reduceCtorEq, Nat.reduceLeDiff, Nat.reduceEqDiff, Nat.reduceSub, Nat.reduceMul, Nat.reduceAdd]
    exact fin _ (Nat.mod_lt _ (by omega))
  have k1 : p % l.length < l.length := Nat.mod_lt _ (by omega)
  have k2 : (p * 7 + 3) % l.length < l.length := Nat.mod_lt _ (by omega)
  have c1 := byteT_at k1
  have c2 := byteT_at k2
  have z1 := l[p % l.length].toNat_lt
  have z2 := l[(p * 7 + 3) % l.length].toNat_lt
  generalize l[p % l.length].toNat = y1 at *
  generalize l[(p * 7 + 3) % l.length].toNat = y2 at *
  have hq : p / l.length ≤ p := Nat.div_le_self _ _
  have w1 : IntKind.i64.wrap ((p : Int) * 7) = ((p * 7 : Nat) : Int) := by rw [IntWalk.i64_in _ (by omega)]; omega
  have w2 : IntKind.i64.wrap (((p * 7 : Nat) : Int) + 3) = ((p * 7 + 3 : Nat) : Int) := by rw [IntWalk.i64_in _ (by omega)]; omega
  have w3 : IntKind.i64.wrap ((y1 : Nat) : Int) = ((y1 : Nat) : Int) := IntWalk.i64_in _ (by omega)
  have w4 : IntKind.i64.wrap ((y2 : Nat) : Int) = ((y2 : Nat) : Int) := IntWalk.i64_in _ (by omega)
  have w5 : IntKind.i64.wrap ((y1 : Int) * 131) = ((y1 * 131 : Nat) : Int) := by rw [IntWalk.i64_in _ (by omega)]; omega
  have w6 : IntKind.i64.wrap ((y2 : Int) * 1117) = ((y2 * 1117 : Nat) : Int) := by rw [IntWalk.i64_in _ (by omega)]; omega
  obtain ⟨a1, ha1⟩ : ∃ a, a = y1 * 131 + y2 * 1117 := ⟨_, rfl⟩
  have w7 : IntKind.i64.wrap (((y1 * 131 : Nat) : Int) + ((y2 * 1117 : Nat) : Int)) = ((a1 : Nat) : Int) := by rw [IntWalk.i64_in _ (by omega)]; omega
  have w8 : IntKind.i64.wrap ((p : Int) * 29) = ((p * 29 : Nat) : Int) := by rw [IntWalk.i64_in _ (by omega)]; omega
  obtain ⟨a2, ha2⟩ : ∃ a, a = a1 + p * 29 := ⟨_, rfl⟩
  have w9 : IntKind.i64.wrap (((a1 : Nat) : Int) + ((p * 29 : Nat) : Int)) = ((a2 : Nat) : Int) := by rw [IntWalk.i64_in _ (by omega)]; omega
  obtain ⟨d, hd⟩ : ∃ d, d = p / l.length := ⟨_, rfl⟩
  rw [← hd] at hq
  have w10 : IntKind.i64.wrap ((d : Int) * 53) = ((d * 53 : Nat) : Int) := by rw [IntWalk.i64_in _ (by omega)]; omega
  have w12 : IntKind.i64.wrap ((d : Nat) : Int) = ((d : Nat) : Int) := IntWalk.i64_in _ (by omega)
  obtain ⟨X, hX0⟩ : ∃ a, a = a2 + d * 53 := ⟨_, rfl⟩
  have w11 : IntKind.i64.wrap (((a2 : Nat) : Int) + ((d * 53 : Nat) : Int)) = ((X : Nat) : Int) := by rw [IntWalk.i64_in _ (by omega)]; omega
  have hX : X < 9223372036854775808 := by omega
  have td : ((p : Nat) : Int).tdiv ((l.length : Nat) : Int) = ((d : Nat) : Int) := by rw [hd]; rfl
  have n64 : ((64 : Int) ≠ 0) = True := by simp
  have t64 : ((X : Nat) : Int).tdiv 64 = ((X / 64 : Nat) : Int) := rfl
  have hx64 : X / 64 ≤ X := Nat.div_le_self _ _
  have w13 : IntKind.i64.wrap ((X / 64 : Nat) : Int) = ((X / 64 : Nat) : Int) := IntWalk.i64_in _ (by omega)
  have x1 := i64_xor_nat X (X / 64) hX (by omega)
  simp -implicitDefEqProofs only [hid, s1, nat_nn, Nat.zero_le, List.length_map, byteT_len, more, back, c1, c2, l0, n0, n64, tmod_nat, td, w1, w2, w3, w4, w5, w6, w7, w8, w9, w10, w11, w12, w13, t64, x1, S0, S1, S2, S3, S4, S5, S6, S7, S8, S9, S10, S11, S12, S13, S14, S15, S16, S17, opv, opvs, eget, env0, setD, lenStr, lenSl, isNilP, isNilS, putAt, if_true, if_false, reduceCtorEq, Nat.reduceLeDiff, Nat.reduceEqDiff, Nat.reduceSub, Nat.reduceMul, Nat.reduceAdd]
  exact fin _ (Nat.mod_lt _ (by omega))

def c_spec_l1Open : C := (.seq (.ops [⟨(some 2), none, (.mv (.c .nilp))⟩]) (.seq (.seq (.ops [⟨(some 3), none, (.mv (.t 0))⟩, ⟨(some 4), none, (.len false (.t 3))⟩, ⟨(some 5), none, (.bin .gtr (.t 4) (.c (.t (.int .i64 2000))))⟩]) (.cond (.t 5) (.ops [⟨(some 6), none, (.mv (.t 0))⟩, ⟨(some 7), none, (.sliceSl 1 (.t 6) none (some (.c (.t (.int .i64 2000)))))⟩, ⟨(some 0), none, (.mv (.t 7))⟩]) .skip)) (.seq (.ops [⟨(some 8), none, (.mv (.t 0))⟩, ⟨(some 9), none, (.build [.nils, (.t (.int .i64 0))] [⟨0, ⟨1, (.t 8)⟩⟩])⟩, ⟨(some 10), none, (.box (.t 9))⟩, ⟨(some 2), none, (.mv (.t 10))⟩]) .ret)))
theorem k_spec_l1Open : comp Tryd.prog 11 (Tryd.f60.body.getD .skip) = some c_spec_l1Open := by kernel_rfl

/-- The reader is new, over some of the code. -/
theorem open_rd (c : List UInt8) (σ : Store) : ACalls Tryd.prog 60 [.t (.lst 1 (byteT c))] σ fun r σ' => ∃ l : List UInt8, l.length ≤ 2000 ∧ r = .ptr σ.length 0 ∧ σ' = σ ++ [.box (rdV l 0)] := by
  refine acalls_of Tryd.func60 (by decide +kernel) (code := Tryd.f60.body.getD .skip) (n := 11) (c := c_spec_l1Open) (rs := [(.tmp 2)]) rfl rfl k_spec_l1Open (by kernel_rfl) (by simp) (fun hσ => ?_)
  have tk : (byteT c).take 2000 = byteT (c.take 2000) := by simp [byteT, List.map_take]
  have c1 : ((0 : Int) ≤ 2000) = True := by simp
  have c2 : Int.toNat 2000 = 2000 := rfl
  simp -implicitDefEqProofs only [c_spec_l1Open, byteT_len, S0, S1, S2, S3, S4, S5, S6, S7, S8, S9, S10, S11, S12, S13, S14, S15, S16, S17, opv, opvs, eget, env0, setD, lenStr, lenSl, isNilP, isNilS, putAt, if_true, if_false, reduceCtorEq, Nat.reduceLeDiff, Nat.reduceEqDiff, Nat.reduceSub, Nat.reduceMul, Nat.reduceAdd]
  refine cond_split (fun h => ?_) (fun h => ?_)
  · have h2 : 2000 ≤ c.length := by simp at h; omega
    simp -implicitDefEqProofs only [byteT_len, c1, c2, h2, Nat.zero_le, List.drop_zero, tk, S0, S1, S2, S3, S4, S5, S6, S7, S8, S9, S10, S11, S12, S13, S14, S15, S16, S17, opv, opvs, eget, env0, setD, lenStr, lenSl, isNilP, isNilS, putAt, if_true, if_false, reduceCtorEq, Nat.reduceLeDiff, Nat.reduceEqDiff, Nat.reduceSub, Nat.reduceMul, Nat.reduceAdd]
    exact fin_keep (by simp) ⟨c.take 2000, by rw [List.length_take]; omega, rfl, rfl⟩
  · simp -implicitDefEqProofs only [S0, S1, S2, S3, S4, S5, S6, S7, S8, S9, S10, S11, S12, S13, S14, S15, S16, S17, opv, opvs, eget, env0, setD, lenStr, lenSl, isNilP, isNilS, putAt, if_true, if_false, reduceCtorEq, Nat.reduceLeDiff, Nat.reduceEqDiff, Nat.reduceSub, Nat.reduceMul, Nat.reduceAdd]
    exact fin_keep (by simp) ⟨c, by simp at h; omega, rfl, rfl⟩

def c_spec_l1Many : C := (.seq (.ops [⟨(some 4), none, (.mv (.c (.t (.str []))))⟩]) (.seq (.ops [⟨(some 5), none, (.mv (.c (.t (.str []))))⟩]) (.seq (.block 0 (.loop (.seq (.seq (.ops [⟨(some 6), none, (.mv (.t 1))⟩, ⟨(some 7), none, (.bin .gtr (.t 6) (.c (.t (.int .i64 0))))⟩]) (.cond (.t 7) .skip (.exit 0))) (.block 1 (.seq (.seq (.ops [⟨(some 8), none, (.mv (.t 1))⟩, ⟨(some 9), none, (.bin .rem (.t 8) (.c (.t (.int .i64 2))))⟩, ⟨(some 10), none, (.bin .eql (.t 9) (.c (.t (.int .i64 1))))⟩]) (.cond (.t 10) (.ops [⟨(some 11), none, (.mv (.t 5))⟩, ⟨(some 12), none, (.mv (.t 0))⟩, ⟨(some 13), none, (.bin .add (.t 11) (.t 12))⟩, ⟨(some 5), none, (.mv (.t 13))⟩]) .skip)) (.seq (.ops [⟨(some 14), none, (.mv (.t 0))⟩, ⟨(some 15), none, (.mv (.t 0))⟩, ⟨(some 16), none, (.bin .add (.t 14) (.t 15))⟩, ⟨(some 0), none, (.mv (.t 16))⟩]) (.ops [⟨(some 17), none, (.mv (.t 1))⟩, ⟨(some 18), none, (.bin .quo (.t 17) (.c (.t (.int .i64 2))))⟩, ⟨(some 1), none, (.mv (.t 18))⟩]))))))) (.seq (.ops [⟨(some 19), none, (.mv (.t 5))⟩, ⟨(some 4), none, (.mv (.t 19))⟩]) .ret))))
theorem k_spec_l1Many : comp Tryd.prog 20 (Tryd.f97.body.getD .skip) = some c_spec_l1Many := by kernel_rfl

structure Gm where
  s : List UInt8
  n : Nat
  o : List UInt8
/-- A text n times. -/
theorem many_n (s : List UInt8) (n : Nat) (hs : s.length ≤ 1000) (hn : n ≤ 1000) (σ : Store) : ACalls Tryd.prog 97 [.t (.str s), .t (.int .i64 (n : Nat))] σ fun r σ' => (∃ o : List UInt8, r = .t (.str o) ∧ o.length = n * s.length) ∧ σ' = σ := by
  refine acalls_of Tryd.func97 (by decide +kernel) (code := Tryd.f97.body.getD .skip) (n := 20) (c := c_spec_l1Many) (rs := [(.tmp 4)]) rfl rfl k_spec_l1Many (by kernel_rfl) (by simp) (fun hσ => ?_)
  simp -implicitDefEqProofs only [c_spec_l1Many, S0, S1, S2, S3, S4, S5, S6, S7, S8, S9, S10, S11, S12, S13, S14, S15, S16, S17, opv, opvs, eget, env0, setD, lenStr, lenSl, isNilP, isNilS, putAt, if_true, if_false, reduceCtorEq, Nat.reduceLeDiff, Nat.reduceEqDiff, Nat.reduceSub, Nat.reduceMul, Nat.reduceAdd]
  refine loop_p [0, 1, 5] [] (fun g : Gm => [(0, .t (.str g.s)), (1, .t (.int .i64 (g.n : Nat))), (5, .t (.str g.o))]) (fun g => g.o.length + g.n * g.s.length = n * s.length ∧ g.n ≤ n ∧ g.s.length ≤ 4000000 ∧ (1 ≤ g.n → g.n * g.s.length ≤ 1000000)) (fun g => g.n) ⟨s, n, []⟩ (by simp) ⟨by simp, Nat.le_refl _, show s.length ≤ 4000000 by omega, fun _ => Nat.mul_le_mul hn hs⟩ rfl ?_
  rintro ⟨t, k, o⟩ ⟨h1, h2, h3, h4⟩
  simp only at h1 h2 h3 h4
  simp -implicitDefEqProofs only [keep, S0, S1, S2, S3, S4, S5, S6, S7, S8, S9, S10, S11, S12, S13, S14, S15, S16, S17, opv, opvs, eget, env0, setD, lenStr, lenSl, isNilP, isNilS, putAt, if_true, if_false, reduceCtorEq, Nat.reduceLeDiff, Nat.reduceEqDiff, Nat.reduceSub, Nat.reduceMul, Nat.reduceAdd]
  refine cond_split (fun h => ?_) (fun h => ?_)
  · have hk : 1 ≤ k := by simp at h; omega
    have h5 := h4 hk
    have hnm : n * s.length ≤ 1000000 := Nat.mul_le_mul hn hs
    have hto : o.length + t.length ≤ 2000000 := by
      have : t.length ≤ k * t.length := Nat.le_mul_of_pos_left _ hk
      omega
    have htt : t.length ≤ 1000000 := by
      have : t.length ≤ k * t.length := Nat.le_mul_of_pos_left _ hk
      omega
    have m2 : ((k : Nat) : Int).tmod 2 = ((k % 2 : Nat) : Int) := rfl
    have d2 : ((k : Nat) : Int).tdiv 2 = ((k / 2 : Nat) : Int) := rfl
    have n2 : ((2 : Int) ≠ 0) = True := by simp
    have wd : IntKind.i64.wrap ((k / 2 : Nat) : Int) = ((k / 2 : Nat) : Int) := IntWalk.i64_in _ (by omega)
    have b1 : ((o.length + t.length : Nat) : Int) ≤ 9223372036854775807 := by omega
    have b2 : ((t.length + t.length : Nat) : Int) ≤ 9223372036854775807 := by omega
    have hdm : 2 * (k / 2) + k % 2 = k := Nat.div_add_mod k 2
    simp -implicitDefEqProofs only [m2, d2, n2, wd, b1, b2, S0, S1, S2, S3, S4, S5, S6, S7, S8, S9, S10, S11, S12, S13, S14, S15, S16, S17, opv, opvs, eget, env0, setD, lenStr, lenSl, isNilP, isNilS, putAt, if_true, if_false, reduceCtorEq, Nat.reduceLeDiff, Nat.reduceEqDiff, Nat.reduceSub, Nat.reduceMul, Nat.reduceAdd]
    refine cond_split (fun g => ?_) (fun g => ?_)
    · have hk1 : k % 2 = 1 := by
        have : ((k % 2 : Nat) : Int) = 1 := by simpa using g
        omega
      simp -implicitDefEqProofs only [m2, d2, n2, wd, b1, b2, S0, S1, S2, S3, S4, S5, S6, S7, S8, S9, S10, S11, S12, S13, S14, S15, S16, S17, opv, opvs, eget, env0, setD, lenStr, lenSl, isNilP, isNilS, putAt, if_true, if_false, reduceCtorEq, Nat.reduceLeDiff, Nat.reduceEqDiff, Nat.reduceSub, Nat.reduceMul, Nat.reduceAdd]
      refine lk_p0 ⟨t ++ t, k / 2, o ++ t⟩ (by simp) rfl (by simp only; omega) ⟨?_, by simp only; omega, by simp only [List.length_append]; omega, fun hh => ?_⟩ rfl
      · simp only [List.length_append]
        have e : k * t.length = 2 * (k / 2) * t.length + t.length := by
          conv => lhs; rw [← hdm, hk1, Nat.add_mul, Nat.one_mul]
        rw [show k / 2 * (t.length + t.length) = 2 * (k / 2) * t.length by rw [Nat.mul_comm 2, Nat.mul_assoc, Nat.two_mul]]
        omega
      · simp only [List.length_append] at hh ⊢
        have e : k * t.length = 2 * (k / 2) * t.length + t.length := by
          conv => lhs; rw [← hdm, hk1, Nat.add_mul, Nat.one_mul]
        rw [show k / 2 * (t.length + t.length) = 2 * (k / 2) * t.length by rw [Nat.mul_comm 2, Nat.mul_assoc, Nat.two_mul]]
        omega
    · have hk1 : k % 2 = 0 := by
        have : ¬ ((k % 2 : Nat) : Int) = 1 := by simpa using g
        omega
      simp -implicitDefEqProofs only [m2, d2, n2, wd, b1, b2, S0, S1, S2, S3, S4, S5, S6, S7, S8, S9, S10, S11, S12, S13, S14, S15, S16, S17, opv, opvs, eget, env0, setD, lenStr, lenSl, isNilP, isNilS, putAt, if_true, if_false, reduceCtorEq, Nat.reduceLeDiff, Nat.reduceEqDiff, Nat.reduceSub, Nat.reduceMul, Nat.reduceAdd]
      refine lk_p0 ⟨t ++ t, k / 2, o⟩ (by simp) rfl (by simp only; omega) ⟨?_, by simp only; omega, by simp only [List.length_append]; omega, fun hh => ?_⟩ rfl
      · simp only [List.length_append]
        have e : k * t.length = 2 * (k / 2) * t.length := by
          conv => lhs; rw [← hdm, hk1, Nat.add_zero]
        rw [show k / 2 * (t.length + t.length) = 2 * (k / 2) * t.length by rw [Nat.mul_comm 2, Nat.mul_assoc, Nat.two_mul]]
        omega
      · simp only [List.length_append] at hh ⊢
        have e : k * t.length = 2 * (k / 2) * t.length := by
          conv => lhs; rw [← hdm, hk1, Nat.add_zero]
        rw [show k / 2 * (t.length + t.length) = 2 * (k / 2) * t.length by rw [Nat.mul_comm 2, Nat.mul_assoc, Nat.two_mul]]
        omega
  · have hk : k = 0 := by simp at h; omega
    subst hk
    simp -implicitDefEqProofs only [S0, S1, S2, S3, S4, S5, S6, S7, S8, S9, S10, S11, S12, S13, S14, S15, S16, S17, opv, opvs, eget, env0, setD, lenStr, lenSl, isNilP, isNilS, putAt, if_true, if_false, reduceCtorEq, Nat.reduceLeDiff, Nat.reduceEqDiff, Nat.reduceSub, Nat.reduceMul, Nat.reduceAdd]
    rw [Nat.zero_mul, Nat.add_zero] at h1
    exact ret_same0 rfl ⟨⟨o, rfl, h1⟩, rfl⟩

end Go.Proofs.YtcjchimenfadkaaDoor.W

end


section
open Go Go.Ab
set_option maxHeartbeats 2000000
namespace Go.Proofs.YtcjchimenfadkaaDoor.W
abbrev IntQ (n : Nat) (r : V) : Prop := ∃ x : Nat, r = .t (.int .i64 (x : Nat)) ∧ x < n
abbrev StrQ (n : Nat) (r : V) : Prop := ∃ w : List UInt8, r = .t (.str w) ∧ w.length ≤ n
theorem d_pick (l : List UInt8) (hl : l.length ≤ 2000) (id n : Nat) (hn : 1 ≤ n) (hn2 : n ≤ 1000000) : DrawC Tryd.prog 63 [.ptr id 0, .t (.int .i64 (n : Nat))] l id 1 (IntQ n) := by
  intro A p hid hp
  refine (pick_n l hl p n id (by omega) hn hn2 _ (ds_id0 hid)).mono ?_
  rintro r s ⟨x, rfl, hx, rfl⟩
  exact ⟨p + 1, by omega, by omega, by rw [List.set_set], x, rfl, hx⟩
def strRowsN (n : Nat) : List (List V) → Bool
  | [] => true
  | [.t (.str w)] :: rs => decide (w.length ≤ n) && strRowsN n rs
  | _ => false
abbrev strRows := strRowsN 12
theorem strRows_at {n : Nat} : ∀ {rs : List (List V)} {k : Nat}, strRowsN n rs = true → k < rs.length → ∃ w : List UInt8, rs[k]? = some [.t (.str w)] ∧ w.length ≤ n
  | [], k, _, h => by simp at h
  | r :: rs, k, hs, h => by
    unfold strRowsN at hs
    split at hs
    · rename_i e; cases e
    · rename_i w rs' e
      cases e
      simp only [Bool.and_eq_true, decide_eq_true_eq] at hs
      cases k with
      | zero => exact ⟨w, rfl, hs.1⟩
      | succ k => simpa using strRows_at hs.2 (k := k) (by simpa using h)
    · cases hs

def c___spec_l1Rd__of : C := (.seq (.ops [⟨(some 4), none, (.mv (.c (.t (.str []))))⟩]) (.seq (.ops [⟨(some 5), none, (.mv (.t 1))⟩, ⟨(some 6), none, (.mv (.t 0))⟩, ⟨(some 7), none, (.mv (.t 1))⟩, ⟨(some 8), none, (.len false (.t 7))⟩, ⟨(some 9), none, (.call (.c (.fn (.func 63) [])) [(.t 6), (.t 8)])⟩, ⟨(some 10), none, (.indexAddr 1 (.t 5) (.t 9))⟩, ⟨(some 11), none, (.load none (.t 10))⟩, ⟨(some 4), none, (.mv (.t 11))⟩]) .ret))
theorem k___spec_l1Rd__of : comp Tryd.prog 12 (Tryd.f96.body.getD .skip) = some c___spec_l1Rd__of := by kernel_rfl

theorem d_ofN (l : List UInt8) (hl : l.length ≤ 2000) (id : Nat) (n : Nat) (rs : List (List V)) (hs : strRowsN n rs = true) (h1 : 1 ≤ rs.length) (h2 : rs.length ≤ 1000) : DrawC Tryd.prog 96 [.ptr id 0, .rows 1 rs] l id 1 (StrQ n) := by
  intro A p hid hp
  refine acalls_draw ?_
  refine acalls_of Tryd.func96 (by decide +kernel) (code := Tryd.f96.body.getD .skip) (n := 12) (c := c___spec_l1Rd__of) (rs := [(.tmp 4)]) rfl rfl k___spec_l1Rd__of (by kernel_rfl) (by simp) (fun hσ => ?_)
  simp -implicitDefEqProofs only [c___spec_l1Rd__of, ds_len, ds_get, ds_get0, ds_set, ds_set0, ds_id hid, ds_id0 hid, ds_ids hid, ds_ids0, List.length_set, q_rows_r, Option.map_some, List.length_cons, List.length_nil, Nat.zero_add, Nat.reduceLT, true_and, S0, S1, S2, S3, S4, S5, S6, S7, S8, S9, S10, S11, S12, S13, S14, S15, S16, S17, opv, opvs, eget, env0, setD, lenStr, lenSl, isNilP, isNilS, putAt, if_true, if_false, reduceCtorEq, Nat.reduceLeDiff, Nat.reduceEqDiff, Nat.reduceSub, Nat.reduceMul, Nat.reduceAdd]
  refine call_draw0 (d_pick l hl id rs.length (by omega) (by omega)) hid (by omega) ?_
  rintro r q hqa hqb ⟨x, rfl, hx⟩
  obtain ⟨w, hw, hwl⟩ := strRows_at hs hx
  simp -implicitDefEqProofs only [hw, nat_nn, Nat.zero_le, ds_len, ds_get, ds_get0, ds_set, ds_set0, ds_id hid, ds_id0 hid, ds_ids hid, ds_ids0, List.length_set, q_rows_r, Option.map_some, List.length_cons, List.length_nil, Nat.zero_add, Nat.reduceLT, true_and, S0, S1, S2, S3, S4, S5, S6, S7, S8, S9, S10, S11, S12, S13, S14, S15, S16, S17, opv, opvs, eget, env0, setD, lenStr, lenSl, isNilP, isNilS, putAt, if_true, if_false, reduceCtorEq, Nat.reduceLeDiff, Nat.reduceEqDiff, Nat.reduceSub, Nat.reduceMul, Nat.reduceAdd]
  exact fin_draw0 hqa hqb (fz_t _ _ _) ⟨w, rfl, hwl⟩

theorem d_of (l : List UInt8) (hl : l.length ≤ 2000) (id : Nat) (rs : List (List V)) (hs : strRows rs = true) (h1 : 1 ≤ rs.length) (h2 : rs.length ≤ 1000) : DrawC Tryd.prog 96 [.ptr id 0, .rows 1 rs] l id 1 (StrQ 12) := d_ofN l hl id 12 rs hs h1 h2

end Go.Proofs.YtcjchimenfadkaaDoor.W

end


section
open Go Go.Ab
set_option maxHeartbeats 2000000
namespace Go.Proofs.YtcjchimenfadkaaDoor.W
def c_spec_l11Num : C := (.seq (.ops [⟨(some 12), none, (.new [(.t (.str [])), (.t (.int .i64 0)), (.t (.int .i64 0)), (.t (.int .i64 0)), .nils, (.t (.str [])), (.t (.int .i64 0)), (.t (.bool false)), (.t (.bool false)), (.t (.str [])), (.t (.str []))])⟩]) (.seq (.ops [⟨(some 13), none, (.mv (.t 0))⟩, ⟨(some 14), none, (.mv (.t 1))⟩, ⟨(some 15), none, (.mv (.t 2))⟩, ⟨(some 16), none, (.mv (.t 3))⟩, ⟨(some 17), none, (.mv (.t 4))⟩, ⟨(some 18), none, (.mv (.t 5))⟩, ⟨(some 19), none, (.build [(.t (.str [])), (.t (.int .i64 0)), (.t (.int .i64 0)), (.t (.int .i64 0)), .nils, (.t (.str [])), (.t (.int .i64 0)), (.t (.bool false)), (.t (.bool false)), (.t (.str [])), (.t (.str []))] [⟨0, ⟨1, (.t 13)⟩⟩, ⟨1, ⟨1, (.c (.t (.int .i64 1)))⟩⟩, ⟨2, ⟨1, (.c (.t (.int .i64 1)))⟩⟩, ⟨3, ⟨1, (.t 14)⟩⟩, ⟨7, ⟨1, (.t 15)⟩⟩, ⟨8, ⟨1, (.t 16)⟩⟩, ⟨9, ⟨1, (.t 17)⟩⟩, ⟨10, ⟨1, (.t 18)⟩⟩])⟩, ⟨none, none, (.store 11 (.t 12) (.t 19))⟩]) .ret))
theorem k_spec_l11Num : comp Tryd.prog 20 (Tryd.f132.body.getD .skip) = some c_spec_l11Num := by kernel_rfl

theorem spec_l11Num (a : List UInt8) (m : Int) (b c : Bool) (d e : List UInt8) (σ : Store) : ACalls Tryd.prog 132 [.t (.str (a)), .t (.int .i64 (m)), .t (.bool (b)), .t (.bool (c)), .t (.str (d)), .t (.str (e))] σ fun r s => r = .agg [.t (.str a), .t (.int .i64 1), .t (.int .i64 1), .t (.int .i64 m), .nils, .t (.str []), .t (.int .i64 0), .t (.bool b), .t (.bool c), .t (.str d), .t (.str e)] ∧ s = σ := by
  refine acalls_of Tryd.func132 (by decide +kernel) (code := Tryd.f132.body.getD .skip) (n := 20) (c := c_spec_l11Num) (rs := [(.cell 12 (some 11))]) rfl rfl k_spec_l11Num (by kernel_rfl) (by simp) (fun hσ => ?_)
  simp -implicitDefEqProofs only [c_spec_l11Num, S0, S1, S2, S3, S4, S5, S6, S7, S8, S9, S10, S11, S12, S13, S14, S15, S16, S17, opv, opvs, eget, env0, setD, lenStr, lenSl, isNilP, isNilS, putAt, if_true, if_false, reduceCtorEq, Nat.reduceLeDiff, Nat.reduceEqDiff, Nat.reduceSub, Nat.reduceMul, Nat.reduceAdd]
  first | exact ret_same rfl hσ (by simp [mkRes, V.lt, V.lts, *]) ⟨rfl, rfl⟩ | exact ret_same0 rfl ⟨rfl, rfl⟩

def c_spec_l11Link : C := (.seq (.ops [⟨(some 6), none, (.new [(.t (.str [])), (.t (.int .i64 0)), (.t (.int .i64 0)), (.t (.int .i64 0)), .nils, (.t (.str [])), (.t (.int .i64 0)), (.t (.bool false)), (.t (.bool false)), (.t (.str [])), (.t (.str []))])⟩]) (.seq (.ops [⟨(some 7), none, (.mv (.t 0))⟩, ⟨(some 8), none, (.mv (.t 1))⟩, ⟨(some 9), none, (.mv (.t 2))⟩, ⟨(some 10), none, (.build [(.t (.str [])), (.t (.int .i64 0)), (.t (.int .i64 0)), (.t (.int .i64 0)), .nils, (.t (.str [])), (.t (.int .i64 0)), (.t (.bool false)), (.t (.bool false)), (.t (.str [])), (.t (.str []))] [⟨0, ⟨1, (.t 7)⟩⟩, ⟨1, ⟨1, (.c (.t (.int .i64 4)))⟩⟩, ⟨5, ⟨1, (.t 8)⟩⟩, ⟨6, ⟨1, (.t 9)⟩⟩])⟩, ⟨none, none, (.store 11 (.t 6) (.t 10))⟩]) .ret))
theorem k_spec_l11Link : comp Tryd.prog 11 (Tryd.f134.body.getD .skip) = some c_spec_l11Link := by kernel_rfl

theorem spec_l11Link (a b : List UInt8) (m : Int) (σ : Store) : ACalls Tryd.prog 134 [.t (.str (a)), .t (.str (b)), .t (.int .i64 (m))] σ fun r s => r = .agg [.t (.str a), .t (.int .i64 4), .t (.int .i64 0), .t (.int .i64 0), .nils, .t (.str b), .t (.int .i64 m), .t (.bool false), .t (.bool false), .t (.str []), .t (.str [])] ∧ s = σ := by
  refine acalls_of Tryd.func134 (by decide +kernel) (code := Tryd.f134.body.getD .skip) (n := 11) (c := c_spec_l11Link) (rs := [(.cell 6 (some 11))]) rfl rfl k_spec_l11Link (by kernel_rfl) (by simp) (fun hσ => ?_)
  simp -implicitDefEqProofs only [c_spec_l11Link, S0, S1, S2, S3, S4, S5, S6, S7, S8, S9, S10, S11, S12, S13, S14, S15, S16, S17, opv, opvs, eget, env0, setD, lenStr, lenSl, isNilP, isNilS, putAt, if_true, if_false, reduceCtorEq, Nat.reduceLeDiff, Nat.reduceEqDiff, Nat.reduceSub, Nat.reduceMul, Nat.reduceAdd]
  first | exact ret_same rfl hσ (by simp [mkRes, V.lt, V.lts, *]) ⟨rfl, rfl⟩ | exact ret_same0 rfl ⟨rfl, rfl⟩

def c_spec_l11Word : C := (.seq (.ops [⟨(some 6), none, (.new [(.t (.str [])), (.t (.int .i64 0)), (.t (.int .i64 0)), (.t (.int .i64 0)), .nils, (.t (.str [])), (.t (.int .i64 0)), (.t (.bool false)), (.t (.bool false)), (.t (.str [])), (.t (.str []))])⟩]) (.seq (.ops [⟨(some 7), none, (.mv (.t 0))⟩, ⟨(some 8), none, (.mv (.t 1))⟩, ⟨(some 9), none, (.mv (.t 2))⟩, ⟨(some 10), none, (.build [(.t (.str [])), (.t (.int .i64 0)), (.t (.int .i64 0)), (.t (.int .i64 0)), .nils, (.t (.str [])), (.t (.int .i64 0)), (.t (.bool false)), (.t (.bool false)), (.t (.str [])), (.t (.str []))] [⟨0, ⟨1, (.t 7)⟩⟩, ⟨1, ⟨1, (.c (.t (.int .i64 2)))⟩⟩, ⟨4, ⟨1, (.t 8)⟩⟩, ⟨9, ⟨1, (.t 9)⟩⟩])⟩, ⟨none, none, (.store 11 (.t 6) (.t 10))⟩]) .ret))
theorem k_spec_l11Word : comp Tryd.prog 11 (Tryd.f133.body.getD .skip) = some c_spec_l11Word := by kernel_rfl

theorem spec_l11Word (a : List UInt8) (rs : List (List V)) (hl : ∀ n, V.ltss n rs = true) (d : List UInt8) (σ : Store) : ACalls Tryd.prog 133 [.t (.str (a)), .rows 1 rs, .t (.str (d))] σ fun r s => r = .agg [.t (.str a), .t (.int .i64 2), .t (.int .i64 0), .t (.int .i64 0), .rows 1 rs, .t (.str []), .t (.int .i64 0), .t (.bool false), .t (.bool false), .t (.str d), .t (.str [])] ∧ s = σ := by
  refine acalls_of Tryd.func133 (by decide +kernel) (code := Tryd.f133.body.getD .skip) (n := 11) (c := c_spec_l11Word) (rs := [(.cell 6 (some 11))]) rfl rfl k_spec_l11Word (by kernel_rfl) (by simp) (fun hσ => ?_)
  simp -implicitDefEqProofs only [c_spec_l11Word, S0, S1, S2, S3, S4, S5, S6, S7, S8, S9, S10, S11, S12, S13, S14, S15, S16, S17, opv, opvs, eget, env0, setD, lenStr, lenSl, isNilP, isNilS, putAt, if_true, if_false, reduceCtorEq, Nat.reduceLeDiff, Nat.reduceEqDiff, Nat.reduceSub, Nat.reduceMul, Nat.reduceAdd]
  first | exact ret_same rfl hσ (by simp [mkRes, V.lt, V.lts, *]) ⟨rfl, rfl⟩ | exact ret_same0 rfl ⟨rfl, rfl⟩

def teams3 : List GateTeam := [⟨[100, 101, 118], []⟩, ⟨[108, 97, 98], [100, 101, 118]⟩, ⟨[111, 112, 115], []⟩]
def c_spec_l11Law : C := (.seq (.ops [⟨(some 0), none, (.new [.nils, .nils, .nils])⟩]) (.seq (.ops [⟨(some 6), none, (.call (.c (.fn (.func 132) [])) [(.c (.t (.str [114, 111, 111, 109]))), (.c (.t (.int .i64 64))), (.c (.t (.bool true))), (.c (.t (.bool false))), (.c (.t (.str []))), (.c (.t (.str [114, 111, 111, 109])))])⟩, ⟨(some 7), none, (.lit none 1 3 [(.t (.str []))] [⟨0, (.c (.t (.str [97])))⟩, ⟨1, (.c (.t (.str [98])))⟩, ⟨2, (.c (.t (.str [99])))⟩])⟩, ⟨(some 8), none, (.call (.c (.fn (.func 133) [])) [(.c (.t (.str [122, 111, 110, 101]))), (.t 7), (.c (.t (.str [97])))])⟩, ⟨(some 9), none, (.lit none 11 2 [(.t (.str [])), (.t (.int .i64 0)), (.t (.int .i64 0)), (.t (.int .i64 0)), .nils, (.t (.str [])), (.t (.int .i64 0)), (.t (.bool false)), (.t (.bool false)), (.t (.str [])), (.t (.str []))] [⟨0, (.t 6)⟩, ⟨1, (.t 8)⟩])⟩, ⟨(some 10), none, (.build [(.t (.str [])), .nils] [⟨0, ⟨1, (.c (.t (.str [98, 101, 114, 116, 104])))⟩⟩, ⟨1, ⟨1, (.t 9)⟩⟩])⟩, ⟨(some 1), none, (.new [(.t (.str [])), .nils])⟩, ⟨none, none, (.store 2 (.t 1) (.t 10))⟩]) (.seq (.ops [⟨(some 11), none, (.call (.c (.fn (.func 132) [])) [(.c (.t (.str [110, 101, 101, 100]))), (.c (.t (.int .i64 32))), (.c (.t (.bool false))), (.c (.t (.bool false))), (.c (.t (.str [49]))), (.c (.t (.str [110, 101, 101, 100])))])⟩, ⟨(some 12), none, (.lit none 1 2 [(.t (.str []))] [⟨0, (.c (.t (.str [98, 105, 103])))⟩, ⟨1, (.c (.t (.str [115, 109, 97, 108, 108])))⟩])⟩, ⟨(some 13), none, (.call (.c (.fn (.func 133) [])) [(.c (.t (.str [109, 111, 100, 101]))), (.t 12), (.c (.t (.str [])))])⟩, ⟨(some 14), none, (.call (.c (.fn (.func 134) [])) [(.c (.t (.str [111, 110]))), (.c (.t (.str [98, 101, 114, 116, 104]))), (.c (.t (.int .i64 1)))])⟩, ⟨(some 15), none, (.call (.c (.fn (.func 134) [])) [(.c (.t (.str [118, 111, 108]))), (.c (.t (.str [118, 111, 108]))), (.c (.t (.int .i64 2)))])⟩, ⟨(some 16), none, (.call (.c (.fn (.func 134) [])) [(.c (.t (.str [111, 102]))), (.c (.t (.str [106, 111, 98]))), (.c (.t (.int .i64 3)))])⟩, ⟨(some 17), none, (.lit none 11 5 [(.t (.str [])), (.t (.int .i64 0)), (.t (.int .i64 0)), (.t (.int .i64 0)), .nils, (.t (.str [])), (.t (.int .i64 0)), (.t (.bool false)), (.t (.bool false)), (.t (.str [])), (.t (.str []))] [⟨0, (.t 11)⟩, ⟨1, (.t 13)⟩, ⟨2, (.t 14)⟩, ⟨3, (.t 15)⟩, ⟨4, (.t 16)⟩])⟩, ⟨(some 18), none, (.build [(.t (.str [])), .nils] [⟨0, ⟨1, (.c (.t (.str [106, 111, 98])))⟩⟩, ⟨1, ⟨1, (.t 17)⟩⟩])⟩, ⟨(some 2), none, (.new [(.t (.str [])), .nils])⟩, ⟨none, none, (.store 2 (.t 2) (.t 18))⟩]) (.seq (.ops [⟨(some 19), none, (.call (.c (.fn (.func 132) [])) [(.c (.t (.str [115, 105, 122, 101]))), (.c (.t (.int .i64 100))), (.c (.t (.bool true))), (.c (.t (.bool true))), (.c (.t (.str []))), (.c (.t (.str [100, 105, 115, 107])))])⟩, ⟨(some 20), none, (.lit none 1 2 [(.t (.str []))] [⟨0, (.c (.t (.str [102, 97, 115, 116])))⟩, ⟨1, (.c (.t (.str [115, 108, 111, 119])))⟩])⟩, ⟨(some 21), none, (.call (.c (.fn (.func 133) [])) [(.c (.t (.str [99, 108, 97, 115, 115]))), (.t 20), (.c (.t (.str [])))])⟩, ⟨(some 22), none, (.build [(.t (.str [])), (.t (.int .i64 0)), (.t (.int .i64 0)), (.t (.int .i64 0)), .nils, (.t (.str [])), (.t (.int .i64 0)), (.t (.bool false)), (.t (.bool false)), (.t (.str [])), (.t (.str []))] [⟨0, ⟨1, (.c (.t (.str [110, 111, 116, 101])))⟩⟩, ⟨1, ⟨1, (.c (.t (.int .i64 3)))⟩⟩, ⟨2, ⟨1, (.c (.t (.int .i64 1)))⟩⟩, ⟨3, ⟨1, (.c (.t (.int .i64 20)))⟩⟩])⟩, ⟨(some 23), none, (.lit none 11 3 [(.t (.str [])), (.t (.int .i64 0)), (.t (.int .i64 0)), (.t (.int .i64 0)), .nils, (.t (.str [])), (.t (.int .i64 0)), (.t (.bool false)), (.t (.bool false)), (.t (.str [])), (.t (.str []))] [⟨0, (.t 19)⟩, ⟨1, (.t 21)⟩, ⟨2, (.t 22)⟩])⟩, ⟨(some 24), none, (.build [(.t (.str [])), .nils] [⟨0, ⟨1, (.c (.t (.str [118, 111, 108])))⟩⟩, ⟨1, ⟨1, (.t 23)⟩⟩])⟩, ⟨(some 3), none, (.new [(.t (.str [])), .nils])⟩, ⟨none, none, (.store 2 (.t 3) (.t 24))⟩]) (.seq (.ops [⟨(some 25), none, (.build [(.t (.str [])), (.t (.str [])), (.t (.str [])), (.t (.str [])), (.t (.str [])), (.t (.str []))] [⟨0, ⟨1, (.c (.t (.str [106, 111, 98])))⟩⟩, ⟨1, ⟨1, (.c (.t (.str [110, 101, 101, 100])))⟩⟩, ⟨2, ⟨1, (.c (.t (.str [109, 111, 100, 101])))⟩⟩, ⟨3, ⟨1, (.c (.t (.str [98, 105, 103])))⟩⟩, ⟨4, ⟨1, (.c (.t (.str [56])))⟩⟩])⟩, ⟨(some 26), none, (.build [(.t (.str [])), (.t (.str [])), (.t (.str [])), (.t (.str [])), (.t (.str [])), (.t (.str []))] [⟨0, ⟨1, (.c (.t (.str [118, 111, 108])))⟩⟩, ⟨1, ⟨1, (.c (.t (.str [110, 111, 116, 101])))⟩⟩, ⟨2, ⟨1, (.c (.t (.str [99, 108, 97, 115, 115])))⟩⟩, ⟨3, ⟨1, (.c (.t (.str [102, 97, 115, 116])))⟩⟩, ⟨5, ⟨1, (.c (.t (.str [99, 108, 97, 115, 115])))⟩⟩])⟩, ⟨(some 27), none, (.build [(.t (.str [])), (.t (.str [])), (.t (.str [])), (.t (.str [])), (.t (.str [])), (.t (.str []))] [⟨0, ⟨1, (.c (.t (.str [98, 101, 114, 116, 104])))⟩⟩, ⟨1, ⟨1, (.c (.t (.str [114, 111, 111, 109])))⟩⟩, ⟨2, ⟨1, (.c (.t (.str [122, 111, 110, 101])))⟩⟩, ⟨3, ⟨1, (.c (.t (.str [99])))⟩⟩, ⟨4, ⟨1, (.c (.t (.str [52])))⟩⟩])⟩, ⟨(some 28), none, (.lit none 6 3 [(.t (.str [])), (.t (.str [])), (.t (.str [])), (.t (.str [])), (.t (.str [])), (.t (.str []))] [⟨0, (.t 25)⟩, ⟨1, (.t 26)⟩, ⟨2, (.t 27)⟩])⟩, ⟨(some 4), none, (.mv (.t 28))⟩]) (.seq (.ops [⟨(some 29), none, (.build [(.t (.str [])), (.t (.str []))] [⟨0, ⟨1, (.c (.t (.str [100, 101, 118])))⟩⟩])⟩, ⟨(some 30), none, (.build [(.t (.str [])), (.t (.str []))] [⟨0, ⟨1, (.c (.t (.str [108, 97, 98])))⟩⟩, ⟨1, ⟨1, (.c (.t (.str [100, 101, 118])))⟩⟩])⟩, ⟨(some 31), none, (.build [(.t (.str [])), (.t (.str []))] [⟨0, ⟨1, (.c (.t (.str [111, 112, 115])))⟩⟩])⟩, ⟨(some 32), none, (.lit none 2 3 [(.t (.str [])), (.t (.str []))] [⟨0, (.t 29)⟩, ⟨1, (.t 30)⟩, ⟨2, (.t 31)⟩])⟩, ⟨(some 5), none, (.mv (.t 32))⟩]) (.seq (.ops [⟨(some 33), none, (.load (some 2) (.t 1))⟩, ⟨(some 34), none, (.load (some 2) (.t 2))⟩, ⟨(some 35), none, (.load (some 2) (.t 3))⟩, ⟨(some 36), none, (.lit none 2 3 [(.t (.str [])), .nils] [⟨0, (.t 33)⟩, ⟨1, (.t 34)⟩, ⟨2, (.t 35)⟩])⟩, ⟨(some 37), none, (.mv (.t 4))⟩, ⟨(some 38), none, (.mv (.t 5))⟩, ⟨(some 39), none, (.build [.nils, .nils, .nils] [⟨0, ⟨1, (.t 36)⟩⟩, ⟨1, ⟨1, (.t 37)⟩⟩, ⟨2, ⟨1, (.t 38)⟩⟩])⟩, ⟨none, none, (.store 3 (.t 0) (.t 39))⟩]) .ret)))))))
theorem k_spec_l11Law : comp Tryd.prog 40 (Tryd.f120.body.getD .skip) = some c_spec_l11Law := by kernel_rfl

set_option maxRecDepth 20000 in
theorem spec_l11Law (σ : Store) : ACalls Tryd.prog 120 [] σ fun r s => (∃ v0 v1, r = .agg [v0, v1, .rows 2 ((teams3.map GateTeam.ts).map fun r => r.map V.t)]) ∧ s = σ := by
  refine acalls_of Tryd.func120 (by decide +kernel) (code := Tryd.f120.body.getD .skip) (n := 40) (c := c_spec_l11Law) (rs := [(.cell 0 (some 3))]) rfl rfl k_spec_l11Law (by kernel_rfl) (by simp) (fun hσ => ?_)
  simp -implicitDefEqProofs only [c_spec_l11Law, S0, S1, S2, S3, S4, S5, S6, S7, S8, S9, S10, S11, S12, S13, S14, S15, S16, S17, opv, opvs, eget, env0, setD, lenStr, lenSl, isNilP, isNilS, putAt, if_true, if_false, reduceCtorEq, Nat.reduceLeDiff, Nat.reduceEqDiff, Nat.reduceSub, Nat.reduceMul, Nat.reduceAdd]
  repeat' (first
    | (refine call_pure (spec_l11Num _ _ _ _ _ _ _) ?_; simp -implicitDefEqProofs only [q_rows_r, Option.map_some, List.length_cons, List.length_nil, Nat.zero_add, Nat.reduceLT, true_and, S0, S1, S2, S3, S4, S5, S6, S7, S8, S9, S10, S11, S12, S13, S14, S15, S16, S17, opv, opvs, eget, env0, setD, lenStr, lenSl, isNilP, isNilS, putAt, if_true, if_false, reduceCtorEq, Nat.reduceLeDiff, Nat.reduceEqDiff, Nat.reduceSub, Nat.reduceMul, Nat.reduceAdd])
    | (refine call_pure (spec_l11Word _ _ (fun n => rfl) _ _) ?_; simp -implicitDefEqProofs only [q_rows_r, Option.map_some, List.length_cons, List.length_nil, Nat.zero_add, Nat.reduceLT, true_and, S0, S1, S2, S3, S4, S5, S6, S7, S8, S9, S10, S11, S12, S13, S14, S15, S16, S17, opv, opvs, eget, env0, setD, lenStr, lenSl, isNilP, isNilS, putAt, if_true, if_false, reduceCtorEq, Nat.reduceLeDiff, Nat.reduceEqDiff, Nat.reduceSub, Nat.reduceMul, Nat.reduceAdd])
    | (refine call_pure (spec_l11Link _ _ _ _) ?_; simp -implicitDefEqProofs only [q_rows_r, Option.map_some, List.length_cons, List.length_nil, Nat.zero_add, Nat.reduceLT, true_and, S0, S1, S2, S3, S4, S5, S6, S7, S8, S9, S10, S11, S12, S13, S14, S15, S16, S17, opv, opvs, eget, env0, setD, lenStr, lenSl, isNilP, isNilS, putAt, if_true, if_false, reduceCtorEq, Nat.reduceLeDiff, Nat.reduceEqDiff, Nat.reduceSub, Nat.reduceMul, Nat.reduceAdd])
    | (refine ⟨by omega, false, ?_⟩; simp -implicitDefEqProofs only [q_rows_r, Option.map_some, List.length_cons, List.length_nil, Nat.zero_add, Nat.reduceLT, true_and, S0, S1, S2, S3, S4, S5, S6, S7, S8, S9, S10, S11, S12, S13, S14, S15, S16, S17, opv, opvs, eget, env0, setD, lenStr, lenSl, isNilP, isNilS, putAt, if_true, if_false, reduceCtorEq, Nat.reduceLeDiff, Nat.reduceEqDiff, Nat.reduceSub, Nat.reduceMul, Nat.reduceAdd])
    | ((with_reducible refine lit_rows ?_); simp -implicitDefEqProofs only [q_rows_r, Option.map_some, List.length_cons, List.length_nil, Nat.zero_add, Nat.reduceLT, true_and, S0, S1, S2, S3, S4, S5, S6, S7, S8, S9, S10, S11, S12, S13, S14, S15, S16, S17, opv, opvs, eget, env0, setD, lenStr, lenSl, isNilP, isNilS, putAt, if_true, if_false, reduceCtorEq, Nat.reduceLeDiff, Nat.reduceEqDiff, Nat.reduceSub, Nat.reduceMul, Nat.reduceAdd]))
  exact ret_same rfl hσ rfl ⟨⟨_, _, rfl⟩, rfl⟩

end Go.Proofs.YtcjchimenfadkaaDoor.W

end
