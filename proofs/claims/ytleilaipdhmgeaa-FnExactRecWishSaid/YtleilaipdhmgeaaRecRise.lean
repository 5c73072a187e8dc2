/- RecRise of the reference and of the program. Conditions: none. -/
import Derived.Test.YtleilaipdhmgeaaRecFall
set_option linter.unusedSimpArgs false
set_option linter.unusedVariables false
set_option linter.defProp false
open Go Go.Ab
set_option maxHeartbeats 4000000
namespace Go.Proofs.Ytleilaipdhmgeaa.W
def c_spec_l22Copy : C := (.seq (.ops [⟨(some 1), none, (.box (.t 0))⟩, ⟨(some 2), none, (.new [(.t (.int .i64 0)), (.t (.int .i64 0)), (.t (.bool false)), (.t (.int .i64 0)), (.t (.int .i64 0)), .nils, (.t (.int .i64 0)), (.t (.int .i64 0)), .nils, .nils, .nils, (.t (.bool false)), (.t (.bool false)), (.t (.int .i64 0)), .nils, .nils, .nils, (.t (.int .i64 0))])⟩]) (.seq (.ops [⟨(some 5), none, (.fieldAddr 3 (.t 1))⟩, ⟨(some 6), none, (.load (some 3) (.t 5))⟩, ⟨(some 7), none, (.call (.c (.fn (.func 126) [])) [(.t 6)])⟩, ⟨(some 8), none, (.fieldAddr 3 (.t 1))⟩, ⟨none, none, (.store 3 (.t 8) (.t 7))⟩]) (.seq (.ops [⟨(some 9), none, (.fieldAddr 6 (.t 1))⟩, ⟨(some 10), none, (.load (some 3) (.t 9))⟩, ⟨(some 11), none, (.call (.c (.fn (.func 126) [])) [(.t 10)])⟩, ⟨(some 12), none, (.fieldAddr 6 (.t 1))⟩, ⟨none, none, (.store 3 (.t 12) (.t 11))⟩]) (.seq (.ops [⟨(some 13), none, (.fieldAddr 9 (.t 1))⟩, ⟨(some 14), none, (.load none (.t 13))⟩, ⟨(some 15), none, (.call (.c (.fn (.func 157) [])) [(.t 14)])⟩, ⟨(some 16), none, (.fieldAddr 9 (.t 1))⟩, ⟨none, none, (.store 1 (.t 16) (.t 15))⟩]) (.seq (.ops [⟨(some 17), none, (.lit none 1 0 [(.t (.str []))] [])⟩, ⟨(some 18), none, (.fieldAddr 10 (.t 1))⟩, ⟨(some 19), none, (.load none (.t 18))⟩, ⟨(some 20), none, (.append 1 16 (.t 17) (.t 19))⟩, ⟨(some 21), none, (.fieldAddr 10 (.t 1))⟩, ⟨none, none, (.store 1 (.t 21) (.t 20))⟩]) (.seq (.ops [⟨(some 22), none, (.lit none 1 0 [(.t (.int .i64 0))] [])⟩, ⟨(some 23), none, (.fieldAddr 14 (.t 1))⟩, ⟨(some 24), none, (.load none (.t 23))⟩, ⟨(some 25), none, (.append 1 8 (.t 22) (.t 24))⟩, ⟨(some 26), none, (.fieldAddr 14 (.t 1))⟩, ⟨none, none, (.store 1 (.t 26) (.t 25))⟩]) (.seq (.ops [⟨(some 27), none, (.fieldAddr 15 (.t 1))⟩, ⟨(some 28), none, (.load none (.t 27))⟩, ⟨(some 29), none, (.call (.c (.fn (.func 82) [])) [(.t 28)])⟩, ⟨(some 30), none, (.fieldAddr 15 (.t 1))⟩, ⟨none, none, (.store 1 (.t 30) (.t 29))⟩]) (.seq (.ops [⟨(some 31), none, (.lit none 2 0 [(.t (.int .i64 0)), .nils] [])⟩, ⟨(some 3), none, (.mv (.t 31))⟩]) (.seq (.seq (.ops [⟨(some 4), none, (.mv (.c (.t (.int .i64 0))))⟩]) (.block 0 (.loop (.seq (.seq (.ops [⟨(some 32), none, (.mv (.t 4))⟩, ⟨(some 33), none, (.fieldAddr 16 (.t 1))⟩, ⟨(some 34), none, (.load none (.t 33))⟩, ⟨(some 35), none, (.len false (.t 34))⟩, ⟨(some 36), none, (.bin .lss (.t 32) (.t 35))⟩]) (.cond (.t 36) .skip (.exit 0))) (.seq (.block 1 (.drawn [(.mk 0 false ⟨(some 39), none, (.mv (.t 3))⟩), (.mk 1 false ⟨(some 40), none, (.fieldAddr 16 (.t 1))⟩), (.mk 2 false ⟨(some 41), none, (.load none (.t 40))⟩), (.mk 3 false ⟨(some 42), none, (.mv (.t 4))⟩), (.mk 4 false ⟨(some 43), none, (.indexAddr 2 (.t 41) (.t 42))⟩), (.mk 5 false ⟨(some 44), none, (.fieldAddr 0 (.t 43))⟩), (.mk 6 false ⟨(some 45), none, (.load none (.t 44))⟩), (.mk 7 false ⟨(some 46), none, (.lit (some false) 1 0 [(.t (.int .i64 0))] [])⟩), (.mk 8 false ⟨(some 47), none, (.fieldAddr 16 (.t 1))⟩), (.mk 9 false ⟨(some 48), none, (.load none (.t 47))⟩), (.mk 10 false ⟨(some 49), none, (.mv (.t 4))⟩), (.mk 11 false ⟨(some 50), none, (.indexAddr 2 (.t 48) (.t 49))⟩), (.mk 12 false ⟨(some 51), none, (.fieldAddr 1 (.t 50))⟩), (.mk 13 false ⟨(some 52), none, (.load none (.t 51))⟩), (.mk 14 true ⟨(some 53), none, (.append 1 8 (.t 46) (.t 52))⟩), (.mk 15 false ⟨(some 54), none, (.build [(.t (.int .i64 0)), .nils] [⟨0, ⟨1, (.t 45)⟩⟩, ⟨1, ⟨1, (.t 53)⟩⟩])⟩), (.mk 16 false ⟨(some 55), none, (.lit (some false) 2 1 [(.t (.int .i64 0)), .nils] [⟨0, (.t 54)⟩])⟩), (.mk 17 false ⟨(some 56), none, (.append 2 32 (.t 39) (.t 55))⟩), (.mk 18 true ⟨(some 3), none, (.mv (.t 56))⟩)])) (.ops [⟨(some 37), none, (.mv (.t 4))⟩, ⟨(some 38), none, (.bin .add (.t 37) (.c (.t (.int .i64 1))))⟩, ⟨(some 4), none, (.mv (.t 38))⟩])))))) (.seq (.ops [⟨(some 57), none, (.mv (.t 3))⟩, ⟨(some 58), none, (.fieldAddr 16 (.t 1))⟩, ⟨none, none, (.store 1 (.t 58) (.t 57))⟩]) (.seq (.ops [⟨(some 59), none, (.load (some 18) (.t 1))⟩, ⟨none, none, (.store 18 (.t 2) (.t 59))⟩]) .ret)))))))))))
theorem k_spec_l22Copy : comp Try.prog 60 (Try.f131.body.getD .skip) = some c_spec_l22Copy := by kernel_rfl

def c_spec_RecRise : C := (.seq (.ops [⟨(some 1), none, (.box (.t 0))⟩, ⟨(some 2), none, (.new [(.t (.int .i64 0)), (.t (.int .i64 0)), (.t (.bool false)), (.t (.int .i64 0)), (.t (.int .i64 0)), .nils, (.t (.int .i64 0)), (.t (.int .i64 0)), .nils, .nils, .nils, (.t (.bool false)), (.t (.bool false)), (.t (.int .i64 0)), .nils, .nils, .nils, (.t (.int .i64 0))])⟩]) (.seq (.seq (.ops [⟨(some 4), none, (.load (some 18) (.t 1))⟩, ⟨(some 5), none, (.call (.c (.fn (.func 44) [])) [(.t 4)])⟩, ⟨(some 6), none, (.un .not (.t 5))⟩]) (.cond (.t 6) (.seq (.ops [⟨(some 7), none, (.build [(.t (.int .i64 0)), (.t (.int .i64 0)), (.t (.bool false)), (.t (.int .i64 0)), (.t (.int .i64 0)), .nils, (.t (.int .i64 0)), (.t (.int .i64 0)), .nils, .nils, .nils, (.t (.bool false)), (.t (.bool false)), (.t (.int .i64 0)), .nils, .nils, .nils, (.t (.int .i64 0))] [])⟩, ⟨none, none, (.store 18 (.t 2) (.t 7))⟩]) .ret) .skip)) (.seq (.ops [⟨(some 8), none, (.load (some 18) (.t 1))⟩, ⟨(some 9), none, (.call (.c (.fn (.func 131) [])) [(.t 8)])⟩, ⟨(some 3), none, (.new [(.t (.int .i64 0)), (.t (.int .i64 0)), (.t (.bool false)), (.t (.int .i64 0)), (.t (.int .i64 0)), .nils, (.t (.int .i64 0)), (.t (.int .i64 0)), .nils, .nils, .nils, (.t (.bool false)), (.t (.bool false)), (.t (.int .i64 0)), .nils, .nils, .nils, (.t (.int .i64 0))])⟩, ⟨none, none, (.store 18 (.t 3) (.t 9))⟩]) (.seq (.ops [⟨(some 10), none, (.fieldAddr 2 (.t 3))⟩, ⟨none, none, (.store 1 (.t 10) (.c (.t (.bool true))))⟩]) (.seq (.ops [⟨(some 11), none, (.load (some 18) (.t 3))⟩, ⟨none, none, (.store 18 (.t 2) (.t 11))⟩]) .ret)))))
theorem k_spec_RecRise : comp Try.prog 12 (Try.f67.body.getD .skip) = some c_spec_RecRise := by kernel_rfl

def c_impl_RecRise : C := (.seq (.ops [⟨(some 1), none, (.box (.t 0))⟩, ⟨(some 2), none, (.new [(.t (.int .i64 0)), (.t (.int .i64 0)), (.t (.bool false)), (.t (.int .i64 0)), (.t (.int .i64 0)), .nils, (.t (.int .i64 0)), (.t (.int .i64 0)), .nils, .nils, .nils, (.t (.bool false)), (.t (.bool false)), (.t (.int .i64 0)), .nils, .nils, .nils, (.t (.int .i64 0))])⟩]) (.seq (.seq (.ops [⟨(some 4), none, (.load (some 18) (.t 1))⟩, ⟨(some 5), none, (.call (.c (.fn (.func 46) [])) [(.t 4)])⟩, ⟨(some 6), none, (.un .not (.t 5))⟩]) (.cond (.t 6) (.seq (.ops [⟨(some 7), none, (.build [(.t (.int .i64 0)), (.t (.int .i64 0)), (.t (.bool false)), (.t (.int .i64 0)), (.t (.int .i64 0)), .nils, (.t (.int .i64 0)), (.t (.int .i64 0)), .nils, .nils, .nils, (.t (.bool false)), (.t (.bool false)), (.t (.int .i64 0)), .nils, .nils, .nils, (.t (.int .i64 0))] [])⟩, ⟨none, none, (.store 18 (.t 2) (.t 7))⟩]) .ret) .skip)) (.seq (.ops [⟨(some 8), none, (.load (some 18) (.t 1))⟩, ⟨(some 9), none, (.call (.c (.fn (.func 127) [])) [(.t 8)])⟩, ⟨(some 3), none, (.new [(.t (.int .i64 0)), (.t (.int .i64 0)), (.t (.bool false)), (.t (.int .i64 0)), (.t (.int .i64 0)), .nils, (.t (.int .i64 0)), (.t (.int .i64 0)), .nils, .nils, .nils, (.t (.bool false)), (.t (.bool false)), (.t (.int .i64 0)), .nils, .nils, .nils, (.t (.int .i64 0))])⟩, ⟨none, none, (.store 18 (.t 3) (.t 9))⟩]) (.seq (.ops [⟨(some 10), none, (.fieldAddr 2 (.t 3))⟩, ⟨none, none, (.store 1 (.t 10) (.c (.t (.bool true))))⟩]) (.seq (.ops [⟨(some 11), none, (.load (some 18) (.t 3))⟩, ⟨none, none, (.store 18 (.t 2) (.t 11))⟩]) .ret)))))
theorem k_impl_RecRise : comp Try.prog 12 (Try.f68.body.getD .skip) = some c_impl_RecRise := by kernel_rfl

def riseRes (r : Recorder) : Recorder := if validR r = true then { r with Up := true } else zeroRec
def resT_RecRise (r : Recorder) : List T := (riseRes r).ts
theorem spec_l22MessagesF (l : List RecMessage) (hl : RecMessage.OkS l) (σ : Store) : ACalls Try.prog 157 [.t (tRecMessageS l)] σ fun r σ' => r = .t (tRecMessageS l) ∧ σ' = σ := acalls_frzT (spec_l22Messages l hl σ)
theorem own_18 {s : Store} {r : Recorder} {u5 u8 u9 u10 u14 u15 u16 : V} {i5 i8 i9 i10 i14 i15 i16 : List Nat} (O5 : Own s (tRecSlotS r.Safe.Slots) u5 i5) (O8 : Own s (tRecSlotS r.Disk.Slots) u8 i8) (O9 : Own s (tRecMessageS r.Held) u9 i9) (O10 : Own s (tStrs r.Wishes) u10 i10) (O14 : Own s (tInts r.Yes) u14 i14) (O15 : Own s (tRecSlotS r.Best) u15 i15) (O16 : Own s (tRecAckS r.Acks) u16 i16) :
    OwnL s r.ts [.t (.int .i64 r.Number), .t (.int .i64 r.Of), .t (.bool r.Up), .t (.int .i64 r.Safe.Promise), .t (.int .i64 r.Safe.Known), u5, .t (.int .i64 r.Disk.Promise), .t (.int .i64 r.Disk.Known), u8, u9, u10, .t (.bool r.Lead), .t (.bool r.Trying), .t (.int .i64 r.Ballot), u14, u15, u16, .t (.int .i64 r.Heard)] (i5 ++ (i8 ++ (i9 ++ (i10 ++ (i14 ++ (i15 ++ (i16 ++ []))))))) :=
  .int (.int (.bool (.int (.int (.lst O5 (.int (.int (.lst O8 (.lst O9 (.lst O10 (.bool (.bool (.int (.lst O14 (.lst O15 (.lst O16 (.int .nil0)))))))))))))))))
theorem spec_l22Copy (r : Recorder) (hr : r.Ok) (σ : Store) : ACalls Try.prog 131 [.agg r.vs] σ (ToLR r.ts σ) := by
  refine acalls_of Try.func131 (by decide +kernel) (code := Try.f131.body.getD .skip) (n := 60) (c := c_spec_l22Copy) (rs := [(.cell 2 (some 18))]) rfl rfl k_spec_l22Copy (by kernel_rfl) (by simp) (fun hσ => ?_)
  have y1 := hr.Wishes.1
  have y2 := hr.Yes.1
  have y3 := hr.Acks.1
  have b1 : r.Wishes.length * 16 ≤ maxBy := by simp only [maxBy]; omega
  have b2 : r.Wishes.length ≤ 9223372036854775807 := by omega
  have b3 : r.Yes.length * 8 ≤ maxBy := by simp only [maxBy]; omega
  have b4 : r.Yes.length ≤ 9223372036854775807 := by omega
  simp -implicitDefEqProofs only [c_spec_l22Copy, Recorder.vs, S0, S1, S2, S3, S4, S5, S6, S7, S8, S9, S10, S11, S12, S13, S14, S15, opv, opvs, eget, env0, setD, lenStr, lenSl, isNilP, isNilS, putAt, if_true, if_false, reduceCtorEq, Nat.reduceLeDiff, Nat.reduceEqDiff, Nat.reduceSub, Nat.reduceMul, Nat.reduceAdd]
  refine call_by (by rw [List.append_nil]; exact spec_l21Disk r.Safe hr.Safe _) ?_
  rintro v σ' ⟨us, τ1, i1, rfl, rfl, o1, w1⟩
  obtain ⟨u1, rfl, O1⟩ := own3 o1
  clear o1
  have e1 := O1.one
  simp -implicitDefEqProofs only [e1, S0, S1, S2, S3, S4, S5, S6, S7, S8, S9, S10, S11, S12, S13, S14, S15, opv, opvs, eget, env0, setD, lenStr, lenSl, isNilP, isNilS, putAt, if_true, if_false, reduceCtorEq, Nat.reduceLeDiff, Nat.reduceEqDiff, Nat.reduceSub, Nat.reduceMul, Nat.reduceAdd]
  refine call_by (by rw [List.append_nil]; exact spec_l21Disk r.Disk hr.Disk _) ?_
  rintro v σ' ⟨us, τ2, i2, rfl, rfl, o2, w2⟩
  obtain ⟨u2, rfl, O2⟩ := own3 o2
  clear o2
  have e2 := O2.one
  simp -implicitDefEqProofs only [e1, e2, S0, S1, S2, S3, S4, S5, S6, S7, S8, S9, S10, S11, S12, S13, S14, S15, opv, opvs, eget, env0, setD, lenStr, lenSl, isNilP, isNilS, putAt, if_true, if_false, reduceCtorEq, Nat.reduceLeDiff, Nat.reduceEqDiff, Nat.reduceSub, Nat.reduceMul, Nat.reduceAdd]
  refine call_by (by rw [List.append_nil]; exact spec_l22Messages r.Held hr.Held _) ?_
  rintro u3 σ' ⟨τ3, i3, rfl, o3, w3⟩
  have e3 := o3.one
  simp -implicitDefEqProofs only [e1, e2, e3, one_cells e3, S0, S1, S2, S3, S4, S5, S6, S7, S8, S9, S10, S11, S12, S13, S14, S15, opv, opvs, eget, env0, setD, lenStr, lenSl, isNilP, isNilS, putAt, if_true, if_false, reduceCtorEq, Nat.reduceLeDiff, Nat.reduceEqDiff, Nat.reduceSub, Nat.reduceMul, Nat.reduceAdd]
  refine lit_own ?_
  simp -implicitDefEqProofs only [e1, e2, e3, one_cells e3, List.length_map, b1, b2, b3, b4, S0, S1, S2, S3, S4, S5, S6, S7, S8, S9, S10, S11, S12, S13, S14, S15, opv, opvs, eget, env0, setD, lenStr, lenSl, isNilP, isNilS, putAt, if_true, if_false, reduceCtorEq, Nat.reduceLeDiff, Nat.reduceEqDiff, Nat.reduceSub, Nat.reduceMul, Nat.reduceAdd]
  refine lit_own ?_
  simp -implicitDefEqProofs only [e1, e2, e3, one_cells e3, List.length_map, b1, b2, b3, b4, S0, S1, S2, S3, S4, S5, S6, S7, S8, S9, S10, S11, S12, S13, S14, S15, opv, opvs, eget, env0, setD, lenStr, lenSl, isNilP, isNilS, putAt, if_true, if_false, reduceCtorEq, Nat.reduceLeDiff, Nat.reduceEqDiff, Nat.reduceSub, Nat.reduceMul, Nat.reduceAdd]
  refine call_by (by rw [List.append_nil]; exact spec_l21Slots r.Best hr.Best.1 _) ?_
  rintro u4 σ' ⟨τ4, i4, rfl, o4, w4⟩
  have e4 := o4.one
  simp -implicitDefEqProofs only [e1, e2, e3, one_cells e3, e4, one_cells e4, List.length_map, b1, b2, b3, b4, S0, S1, S2, S3, S4, S5, S6, S7, S8, S9, S10, S11, S12, S13, S14, S15, opv, opvs, eget, env0, setD, lenStr, lenSl, isNilP, isNilS, putAt, if_true, if_false, reduceCtorEq, Nat.reduceLeDiff, Nat.reduceEqDiff, Nat.reduceSub, Nat.reduceMul, Nat.reduceAdd]
  refine lit_own ?_
  simp -implicitDefEqProofs only [e1, e2, e3, one_cells e3, e4, one_cells e4, List.length_map, b1, b2, b3, b4, S0, S1, S2, S3, S4, S5, S6, S7, S8, S9, S10, S11, S12, S13, S14, S15, opv, opvs, eget, env0, setD, lenStr, lenSl, isNilP, isNilS, putAt, if_true, if_false, reduceCtorEq, Nat.reduceLeDiff, Nat.reduceEqDiff, Nat.reduceSub, Nat.reduceMul, Nat.reduceAdd]
  refine loop_g [3, 4, 1, 2] [1, 2] (fun g : Ga => [(3, g.v), (4, .t (.int .i64 (g.k : Nat)))]) Ga.s (OI (σ ++ (_ :: _ :: (τ1 ++ (τ2 ++ (τ3 ++ (_ :: _ :: τ4)))))) 2 (r.Acks.map RecAck.ts)) (fun g => r.Acks.length - g.k) ⟨0, .sl _ 0 0 0, _, [_]⟩ (by simp) (OI.lit' (by omega) (by simp only [List.append_assoc, List.cons_append]; rfl) (by simp only [List.length_append, List.length_cons]; omega)) rfl rfl ?_
  rintro ⟨k, v, s, is⟩ ⟨hk, hl, hkp, ho, hv, hw⟩
  simp only [List.length_map] at hk hl hkp ho hv hw
  have e5 := hkp σ.length (by simp)
  have e6 := hkp (σ.length + 1) (by simp)
  simp -implicitDefEqProofs only [S0, S1, S2, S3, S4, S5, S6, S7, S8, S9, S10, S11, S12, S13, S14, S15, opv, opvs, eget, env0, setD, lenStr, lenSl, isNilP, isNilS, putAt, if_true, if_false, reduceCtorEq, Nat.reduceLeDiff, Nat.reduceEqDiff, Nat.reduceSub, Nat.reduceMul, Nat.reduceAdd] at e5 e6
  simp -implicitDefEqProofs only [keep, e5, List.length_map, S0, S1, S2, S3, S4, S5, S6, S7, S8, S9, S10, S11, S12, S13, S14, S15, opv, opvs, eget, env0, setD, lenStr, lenSl, isNilP, isNilS, putAt, if_true, if_false, reduceCtorEq, Nat.reduceLeDiff, Nat.reduceEqDiff, Nat.reduceSub, Nat.reduceMul, Nat.reduceAdd]
  refine cond_split (fun h1 => ?_) (fun h1 => ?_)
  · obtain ⟨x, hx, hlt⟩ := at_of h1
    have hx' : (r.Acks.map RecAck.ts)[k]? = some x.ts := by rw [List.getElem?_map, hx]; rfl
    have hok := hr.Acks.2 x (mem_at hx)
    have hf := hok.From.1
    have more := i64_succ (show k < 4611686018427387904 by omega)
    have c1 : 0 < 1 := by omega
    have b5 : x.From.length * 8 ≤ maxBy := by simp only [maxBy]; omega
    have b6 : x.From.length ≤ 9223372036854775807 := by omega
    simp -implicitDefEqProofs only [hx, e5, c1, b5, b6, nat_nn, List.getElem?_map, Option.map_some, RecAck.ts, List.length_map, S0, S1, S2, S3, S4, S5, S6, S7, S8, S9, S10, S11, S12, S13, S14, S15, opv, opvs, eget, env0, setD, lenStr, lenSl, isNilP, isNilS, putAt, if_true, if_false, reduceCtorEq, Nat.reduceLeDiff, Nat.reduceEqDiff, Nat.reduceSub, Nat.reduceMul, Nat.reduceAdd]
    refine ⟨fun h0 => ?_, fun h0 => ?_⟩
    · have hF : x.From = [] := by simpa using h0
      have hrow : (([[V.t (.int .i64 x.Index), V.rows 1 []]] : List (List V)).all fun r => r.all one) = true := rfl
      simp -implicitDefEqProofs only [q_rows_r _ _ hrow, S0, S1, S2, S3, S4, S5, S6, S7, S8, S9, S10, S11, S12, S13, S14, S15, opv, opvs, eget, env0, setD, lenStr, lenSl, isNilP, isNilS, putAt, if_true, if_false, reduceCtorEq, Nat.reduceLeDiff, Nat.reduceEqDiff, Nat.reduceSub, Nat.reduceMul, Nat.reduceAdd]
      refine app_own ho hv hw (r := x.ts) (us := [.t (.int .i64 x.Index), .rows 1 []]) (OwnL.int (OwnL.lst (is := []) (by rw [hF]; simp [Own]) OwnL.nil0)) (js := [] ++ []) Wi.nil (fun i hi => by simp) (Nat.le_trans hl (by simp)) (by simp only [maxBy, List.length_take, List.length_map]; omega) (by simp only [List.length_take, List.length_map]; omega) ?_
      rintro v' s' is' hl' kb ho' hv' hw'
      simp -implicitDefEqProofs only [more, S0, S1, S2, S3, S4, S5, S6, S7, S8, S9, S10, S11, S12, S13, S14, S15, opv, opvs, eget, env0, setD, lenStr, lenSl, isNilP, isNilS, putAt, if_true, if_false, reduceCtorEq, Nat.reduceLeDiff, Nat.reduceEqDiff, Nat.reduceSub, Nat.reduceMul, Nat.reduceAdd]
      refine lk_g ⟨k + 1, v', s', is'⟩ (by simp only; omega) ?_ (by simp only [List.length_append, List.length_cons] at hl hl' ⊢; omega) rfl rfl
      exact OI.next hkp hl hx' kb hw hl' ho' hv' hw'
    · have hrow : (([[V.t (.int .i64 x.Index), V.sl s.length x.From.length 0 x.From.length]] : List (List V)).all fun r => r.all one) = true := rfl
      simp -implicitDefEqProofs only [q_rows_r _ _ hrow, S0, S1, S2, S3, S4, S5, S6, S7, S8, S9, S10, S11, S12, S13, S14, S15, opv, opvs, eget, env0, setD, lenStr, lenSl, isNilP, isNilS, putAt, if_true, if_false, reduceCtorEq, Nat.reduceLeDiff, Nat.reduceEqDiff, Nat.reduceSub, Nat.reduceMul, Nat.reduceAdd]
      have hfl : Own (s ++ [Go.Ab.Obj.slc 1 (List.map (fun r => List.map V.t r) (List.map tInt x.From))]) (.lst 1 (x.From.map tInt)) (V.sl s.length x.From.length 0 x.From.length) [s.length] := by
        have := own_rows (σ := s ++ [Go.Ab.Obj.slc 1 (List.map (fun r => List.map V.t r) (List.map tInt x.From))]) (id := s.length) (n := 1) (by omega) (int_flat x.From) (by simp)
        simpa using this
      refine app_own ((Kp.app s _).own ho) hv (hw.mono (Nat.le_refl _) (by simp)) (r := x.ts) (OwnL.int (OwnL.lst hfl OwnL.nil0)) (js := [s.length] ++ []) (by
        rw [List.append_nil]
        exact (wi_one _).mono (by omega) (by simp)) (fun i hi => by have := hw.2 i hi; simp; omega) (Nat.le_trans hl (by simp)) (by simp only [maxBy, List.length_take, List.length_map]; omega) (by simp only [List.length_take, List.length_map]; omega) ?_
      rintro v' s' is' hl' kb ho' hv' hw'
      simp -implicitDefEqProofs only [more, S0, S1, S2, S3, S4, S5, S6, S7, S8, S9, S10, S11, S12, S13, S14, S15, opv, opvs, eget, env0, setD, lenStr, lenSl, isNilP, isNilS, putAt, if_true, if_false, reduceCtorEq, Nat.reduceLeDiff, Nat.reduceEqDiff, Nat.reduceSub, Nat.reduceMul, Nat.reduceAdd]
      refine lk_g ⟨k + 1, v', s', is'⟩ (by simp only; omega) ?_ (by simp only [List.length_append, List.length_cons] at hl hl' ⊢; omega) rfl rfl
      exact OI.next (kp_app2 hkp) (by simp only [List.length_append, List.length_cons] at hl ⊢; omega) hx' kb hw hl' ho' hv' hw'
  · have hkk := end_of h1 (by simpa using hk)
    have hsl : σ.length + 2 ≤ s.length := by simp only [List.length_append, List.length_cons] at hl; omega
    rw [hkk, List.take_of_length_le (by simp)] at ho
    have e7 := ho.one
    simp -implicitDefEqProofs only [e5, one_cells e7, e7, List.getElem?_set_self (show σ.length < s.length by omega), List.getElem?_set_ne (show σ.length ≠ σ.length + 1 by omega), set2_self (l := s) (show σ.length + 1 < s.length by omega), e6, e1, e2, e3, e4, S0, S1, S2, S3, S4, S5, S6, S7, S8, S9, S10, S11, S12, S13, S14, S15, opv, opvs, eget, env0, setD, lenStr, lenSl, isNilP, isNilS, putAt, if_true, if_false, reduceCtorEq, Nat.reduceLeDiff, Nat.reduceEqDiff, Nat.reduceSub, Nat.reduceMul, Nat.reduceAdd]
    have W1 := w1
    have W2 := w2
    have W3 := w3
    have W4 := w4
    simp only [List.length_append, List.length_cons, List.length_nil] at w1 w2 w3 w4 hl hw
    have wv : Wi ([σ.length + (τ1.length + (τ2.length + (τ3.length + 2)))] : List Nat) (σ.length + (τ1.length + (τ2.length + (τ3.length + 2)))) (σ.length + (τ1.length + (τ2.length + (τ3.length + 3)))) := (wi_one _).mono (Nat.le_refl _) (by omega)
    have wy : Wi ([σ.length + (τ1.length + (τ2.length + (τ3.length + 3)))] : List Nat) (σ.length + (τ1.length + (τ2.length + (τ3.length + 3)))) (σ.length + (τ1.length + (τ2.length + (τ3.length + 4)))) := (wi_one _).mono (Nat.le_refl _) (by omega)
    refine fin_keep (by simp only [List.length_set]; omega) ⟨_, _, i1 ++ (i2 ++ (i3 ++ ([σ.length + (τ1.length + (τ2.length + (τ3.length + 2)))] ++ ([σ.length + (τ1.length + (τ2.length + (τ3.length + 3)))] ++ (i4 ++ (is ++ [])))))), rfl, kp_split (((Kp.trans (Kp.app _ _) (by simp) hkp).set (Nat.le_refl _)).set (by omega)) (by simp only [List.length_set]; omega), ?_, ?_⟩
    · refine own_18 (set_own (set_own (hkp.own (own_pre (A := [_, _]) (A' := [_, _]) (B := τ1) O1 W1 (List.append_assoc ..) rfl (by simp) (by simp) (by simp only [List.length_append, List.length_cons, List.length_nil]; omega))) (wi_out w1 (by omega))) (wi_out w1 (by omega)))
        (set_own (set_own (hkp.own (own_pre (A := [_, _]) (A' := [_, _]) (B := τ1 ++ τ2) O2 W2 (List.append_assoc ..) rfl (by simp) (by simp) (by simp only [List.length_append, List.length_cons, List.length_nil]; omega))) (wi_out w2 (by omega))) (wi_out w2 (by omega)))
        (set_own (set_own (hkp.own (own_pre (A := [_, _]) (A' := [_, _]) (B := (τ1 ++ τ2) ++ τ3) o3 W3 (List.append_assoc ..) rfl (by simp) (by simp) (by simp only [List.length_append, List.length_cons, List.length_nil]; omega))) (wi_out w3 (by omega))) (wi_out w3 (by omega)))
        (set_own (set_own ?_ (wi_out wv (by omega))) (wi_out wv (by omega)))
        (set_own (set_own ?_ (wi_out wy (by omega))) (wi_out wy (by omega)))
        (set_own (set_own (hkp.own (own_pre (A := [_, _]) (A' := [_, _]) (B := (τ1 ++ (τ2 ++ (τ3 ++ [_, _]))) ++ τ4) o4 W4 (List.append_assoc ..) rfl (by simp) (by simp) (by simp only [List.length_append, List.length_cons, List.length_nil]; omega))) (wi_out w4 (by omega))) (wi_out w4 (by omega)))
        (set_own (set_own ho (wi_out hw (by omega))) (wi_out hw (by omega)))
      · have := own_rows (σ := s) (id := σ.length + (τ1.length + (τ2.length + (τ3.length + 2)))) (n := 1) (by omega) (str_flat r.Wishes) (by
          have := hkp (σ.length + (τ1.length + (τ2.length + (τ3.length + 2)))) (by simp; omega)
          simp -implicitDefEqProofs only [S0, S1, S2, S3, S4, S5, S6, S7, S8, S9, S10, S11, S12, S13, S14, S15, opv, opvs, eget, env0, setD, lenStr, lenSl, isNilP, isNilS, putAt, if_true, if_false, reduceCtorEq, Nat.reduceLeDiff, Nat.reduceEqDiff, Nat.reduceSub, Nat.reduceMul, Nat.reduceAdd] at this
          exact this)
        simpa using this
      · have := own_rows (σ := s) (id := σ.length + (τ1.length + (τ2.length + (τ3.length + 3)))) (n := 1) (by omega) (int_flat r.Yes) (by
          have := hkp (σ.length + (τ1.length + (τ2.length + (τ3.length + 3)))) (by simp; omega)
          simp -implicitDefEqProofs only [S0, S1, S2, S3, S4, S5, S6, S7, S8, S9, S10, S11, S12, S13, S14, S15, opv, opvs, eget, env0, setD, lenStr, lenSl, isNilP, isNilS, putAt, if_true, if_false, reduceCtorEq, Nat.reduceLeDiff, Nat.reduceEqDiff, Nat.reduceSub, Nat.reduceMul, Nat.reduceAdd] at this
          exact this)
        simpa using this
    · simp only [List.length_set]
      exact wi_join w1 (wi_join (d' := s.length) w2 (wi_join (d' := s.length) w3 (wi_join (d' := s.length) wv (wi_join (d' := s.length) wy (wi_join (d' := s.length) w4 (wi_last hw (Nat.le_refl _) (Nat.le_refl _)) (by omega) (Nat.le_refl _) (by omega) (by omega) (by omega)) (by omega) (Nat.le_refl _) (by omega) (by omega) (by omega)) (by omega) (Nat.le_refl _) (by omega) (by omega) (by omega)) (by omega) (Nat.le_refl _) (by omega) (by omega) (by omega)) (by omega) (Nat.le_refl _) (by omega) (by omega) (by omega)) (by omega) (by omega) (by omega) (by omega) (by omega)
theorem spec_l22CopyF (r : Recorder) (hr : r.Ok) (σ : Store) : ACalls Try.prog 131 [.agg r.vs] σ fun rr σ' => rr = .agg r.vs ∧ σ' = σ := acalls_frzTL (spec_l22Copy r hr σ)
theorem specF_RecRise (r : Recorder) (hr : r.Ok) (σ : Store) : ACalls Try.prog 67 [.agg r.vs] σ fun rr σ' => rr = .agg ((resT_RecRise r).map .t) ∧ σ' = σ := by
  refine acalls_frzL ?_
  refine acalls_of Try.func67 (by decide +kernel) (code := Try.f67.body.getD .skip) (n := 12) (c := c_spec_RecRise) (rs := [(.cell 2 (some 18))]) rfl rfl k_spec_RecRise (by kernel_rfl) (by simp) (fun hσ => ?_)
  simp -implicitDefEqProofs only [c_spec_RecRise, Recorder.vs, S0, S1, S2, S3, S4, S5, S6, S7, S8, S9, S10, S11, S12, S13, S14, S15, opv, opvs, eget, env0, setD, lenStr, lenSl, isNilP, isNilS, putAt, if_true, if_false, reduceCtorEq, Nat.reduceLeDiff, Nat.reduceEqDiff, Nat.reduceSub, Nat.reduceMul, Nat.reduceAdd]
  refine call_pure (spec_RecValid r hr _) ?_
  simp -implicitDefEqProofs only [S0, S1, S2, S3, S4, S5, S6, S7, S8, S9, S10, S11, S12, S13, S14, S15, opv, opvs, eget, env0, setD, lenStr, lenSl, isNilP, isNilS, putAt, if_true, if_false, reduceCtorEq, Nat.reduceLeDiff, Nat.reduceEqDiff, Nat.reduceSub, Nat.reduceMul, Nat.reduceAdd]
  refine cond_split (fun h => ?_) (fun h => ?_)
  · have hv : validR r = false := by simpa using h
    simp -implicitDefEqProofs only [S0, S1, S2, S3, S4, S5, S6, S7, S8, S9, S10, S11, S12, S13, S14, S15, opv, opvs, eget, env0, setD, lenStr, lenSl, isNilP, isNilS, putAt, if_true, if_false, reduceCtorEq, Nat.reduceLeDiff, Nat.reduceEqDiff, Nat.reduceSub, Nat.reduceMul, Nat.reduceAdd]
    refine fin_keep (by simp) ⟨_, zeroVs, rfl, rfl, ?_⟩
    simp only [resT_RecRise, riseRes, hv, Bool.false_eq_true, if_false]
    exact (own_zeroRec _).seesF (by simp)
  · have hv : validR r = true := by simpa using h
    simp -implicitDefEqProofs only [S0, S1, S2, S3, S4, S5, S6, S7, S8, S9, S10, S11, S12, S13, S14, S15, opv, opvs, eget, env0, setD, lenStr, lenSl, isNilP, isNilS, putAt, if_true, if_false, reduceCtorEq, Nat.reduceLeDiff, Nat.reduceEqDiff, Nat.reduceSub, Nat.reduceMul, Nat.reduceAdd]
    refine call_pure (spec_l22CopyF r hr _) ?_
    simp -implicitDefEqProofs only [Recorder.vs, S0, S1, S2, S3, S4, S5, S6, S7, S8, S9, S10, S11, S12, S13, S14, S15, opv, opvs, eget, env0, setD, lenStr, lenSl, isNilP, isNilS, putAt, if_true, if_false, reduceCtorEq, Nat.reduceLeDiff, Nat.reduceEqDiff, Nat.reduceSub, Nat.reduceMul, Nat.reduceAdd]
    refine fin_keep (by simp) ⟨_, (resT_RecRise r).map .t, rfl, ?_, seesFL_t _⟩
    simp only [resT_RecRise, riseRes, hv, if_true, mkRes, Recorder.ts, List.map_cons, List.map_nil]
theorem implO_RecRise (r : Recorder) (hr : r.Ok) (σ : Store) : ACalls Try.prog 68 [.agg r.vs] σ (ToLR (resT_RecRise r) σ) := by
  refine acalls_of Try.func68 (by decide +kernel) (code := Try.f68.body.getD .skip) (n := 12) (c := c_impl_RecRise) (rs := [(.cell 2 (some 18))]) rfl rfl k_impl_RecRise (by kernel_rfl) (by simp) (fun hσ => ?_)
  simp -implicitDefEqProofs only [c_impl_RecRise, Recorder.vs, S0, S1, S2, S3, S4, S5, S6, S7, S8, S9, S10, S11, S12, S13, S14, S15, opv, opvs, eget, env0, setD, lenStr, lenSl, isNilP, isNilS, putAt, if_true, if_false, reduceCtorEq, Nat.reduceLeDiff, Nat.reduceEqDiff, Nat.reduceSub, Nat.reduceMul, Nat.reduceAdd]
  refine call_pure (impl_RecValid r hr _) ?_
  simp -implicitDefEqProofs only [S0, S1, S2, S3, S4, S5, S6, S7, S8, S9, S10, S11, S12, S13, S14, S15, opv, opvs, eget, env0, setD, lenStr, lenSl, isNilP, isNilS, putAt, if_true, if_false, reduceCtorEq, Nat.reduceLeDiff, Nat.reduceEqDiff, Nat.reduceSub, Nat.reduceMul, Nat.reduceAdd]
  refine cond_split (fun h => ?_) (fun h => ?_)
  · have hv : validR r = false := by simpa using h
    simp -implicitDefEqProofs only [S0, S1, S2, S3, S4, S5, S6, S7, S8, S9, S10, S11, S12, S13, S14, S15, opv, opvs, eget, env0, setD, lenStr, lenSl, isNilP, isNilS, putAt, if_true, if_false, reduceCtorEq, Nat.reduceLeDiff, Nat.reduceEqDiff, Nat.reduceSub, Nat.reduceMul, Nat.reduceAdd]
    refine fin_keep (by simp) ⟨zeroVs, _, [], rfl, rfl, ?_, Wi.nil⟩
    simp only [resT_RecRise, riseRes, hv, Bool.false_eq_true, if_false]
    exact own_zeroRec _
  · have hv : validR r = true := by simpa using h
    simp -implicitDefEqProofs only [S0, S1, S2, S3, S4, S5, S6, S7, S8, S9, S10, S11, S12, S13, S14, S15, opv, opvs, eget, env0, setD, lenStr, lenSl, isNilP, isNilS, putAt, if_true, if_false, reduceCtorEq, Nat.reduceLeDiff, Nat.reduceEqDiff, Nat.reduceSub, Nat.reduceMul, Nat.reduceAdd]
    refine call_newL (impl_clone_rec r hr _) ?_
    rintro us s is le k o w
    have e6 := k (σ.length + 1) (by simp)
    simp -implicitDefEqProofs only [S0, S1, S2, S3, S4, S5, S6, S7, S8, S9, S10, S11, S12, S13, S14, S15, opv, opvs, eget, env0, setD, lenStr, lenSl, isNilP, isNilS, putAt, if_true, if_false, reduceCtorEq, Nat.reduceLeDiff, Nat.reduceEqDiff, Nat.reduceSub, Nat.reduceMul, Nat.reduceAdd] at e6
    simp only [List.length_append, List.length_cons, List.length_nil] at le w
    obtain ⟨u5, u8, u9, u10, u14, u15, u16, i5, i8, i9, i10, i14, i15, i16, rfl, rfl, O5, O8, O9, O10, O14, O15, O16⟩ := own18 o
    have n5 := O5.one
    have n8 := O8.one
    have n9 := O9.one
    have n10 := O10.one
    have n14 := O14.one
    have n15 := O15.one
    have n16 := O16.one
    have e7 := fun l => (Kp.app s l).box e6
    have e8 : ∀ l Y, ((s ++ l).set (σ.length + 1) Y)[σ.length + 1]? = some Y := fun l Y => List.getElem?_set_self (by simp; omega)
    simp -implicitDefEqProofs only [n5, n8, n9, n10, n14, n15, n16, e7, e8, S0, S1, S2, S3, S4, S5, S6, S7, S8, S9, S10, S11, S12, S13, S14, S15, opv, opvs, eget, env0, setD, lenStr, lenSl, isNilP, isNilS, putAt, if_true, if_false, reduceCtorEq, Nat.reduceLeDiff, Nat.reduceEqDiff, Nat.reduceSub, Nat.reduceMul, Nat.reduceAdd]
    refine fin_keep (by simp; omega) ⟨_, _, _, rfl, kp_split ((Kp.trans (Kp.app _ _) (by simp) (kp_app2 k)).set (by omega)) (by simp; omega), ?_, w.mono (by omega) (by simp)⟩
    simp only [resT_RecRise, riseRes, hv, if_true]
    have := own_18 (r := { r with Up := true }) O5 O8 O9 O10 O14 O15 O16
    refine OwnL.frame (σ := s) this fun i hi => ?_
    have := w.2 i hi
    rw [List.getElem?_set_ne (by omega), List.getElem?_append_left (by omega)]
theorem res_RecRise (r : Recorder) (h : T.isL shRecorder r.ts) (z : T.sizeL r.ts ≤ 1048576) (o : r.Ok) : T.isL shRecorder (resT_RecRise r) ∧ T.sizeL (resT_RecRise r) ≤ 8388608 := by
  unfold resT_RecRise riseRes
  split
  · obtain ⟨n0, n1, n2, n3, n4, n5, n6, n7, n8, n9, n10, n11, n12, n13, n14, n15, n16, n17, e, b0, b1, b3, b4, b5, b6, b7, b8, b9, b10, b13, b14, b15, b16, b17⟩ := isRecorder h
    unfold Recorder.ts at e
    cases e
    refine ⟨mkRecorder b0 b1 b3 b4 b5 b6 b7 b8 b9 b10 b13 b14 b15 b16 b17, ?_⟩
    unfold Recorder.ts at z
    rw [sizeRecorder] at z
    simp only [Recorder.ts]
    rw [sizeRecorder]
    omega
  · exact ⟨is_zeroRec, by rw [len_zeroRec]; omega⟩
end Go.Proofs.Ytleilaipdhmgeaa.W
