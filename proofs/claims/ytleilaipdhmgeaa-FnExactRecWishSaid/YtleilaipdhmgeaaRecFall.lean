/- RecFall of the reference and of the program. Conditions: none. -/
import Derived.Test.YtleilaipdhmgeaaRecCopy4
import Derived.Test.YtleilaipdhmgeaaRecValid
import Derived.Test.YtleilaipdhmgeaaMarkRec2
set_option linter.unusedSimpArgs false
set_option linter.unusedVariables false
set_option linter.defProp false
open Go Go.Ab
set_option maxHeartbeats 4000000
namespace Go.Proofs.Ytleilaipdhmgeaa.W
def c_spec_RecFall : C := (.seq (.ops [⟨(some 1), none, (.box (.t 0))⟩, ⟨(some 2), none, (.new [(.t (.int .i64 0)), (.t (.int .i64 0)), (.t (.bool false)), (.t (.int .i64 0)), (.t (.int .i64 0)), .nils, (.t (.int .i64 0)), (.t (.int .i64 0)), .nils, .nils, .nils, (.t (.bool false)), (.t (.bool false)), (.t (.int .i64 0)), .nils, .nils, .nils, (.t (.int .i64 0))])⟩]) (.seq (.seq (.ops [⟨(some 3), none, (.load (some 18) (.t 1))⟩, ⟨(some 4), none, (.call (.c (.fn (.func 44) [])) [(.t 3)])⟩, ⟨(some 5), none, (.un .not (.t 4))⟩]) (.cond (.t 5) (.seq (.ops [⟨(some 6), none, (.build [(.t (.int .i64 0)), (.t (.int .i64 0)), (.t (.bool false)), (.t (.int .i64 0)), (.t (.int .i64 0)), .nils, (.t (.int .i64 0)), (.t (.int .i64 0)), .nils, .nils, .nils, (.t (.bool false)), (.t (.bool false)), (.t (.int .i64 0)), .nils, .nils, .nils, (.t (.int .i64 0))] [])⟩, ⟨none, none, (.store 18 (.t 2) (.t 6))⟩]) .ret) .skip)) (.seq (.drawn [(.mk 0 false ⟨(some 7), none, (.fieldAddr 0 (.t 1))⟩), (.mk 1 false ⟨(some 8), none, (.load none (.t 7))⟩), (.mk 2 false ⟨(some 9), none, (.fieldAddr 1 (.t 1))⟩), (.mk 3 false ⟨(some 10), none, (.load none (.t 9))⟩), (.mk 4 false ⟨(some 11), none, (.fieldAddr 3 (.t 1))⟩), (.mk 5 false ⟨(some 12), none, (.load (some 3) (.t 11))⟩), (.mk 7 false ⟨(some 14), none, (.fieldAddr 3 (.t 1))⟩), (.mk 8 false ⟨(some 15), none, (.load (some 3) (.t 14))⟩), (.mk 6 true ⟨(some 13), none, (.call (.c (.fn (.func 126) [])) [(.t 12)])⟩), (.mk 9 true ⟨(some 16), none, (.call (.c (.fn (.func 126) [])) [(.t 15)])⟩), (.mk 10 false ⟨(some 17), none, (.build [(.t (.int .i64 0)), (.t (.int .i64 0)), (.t (.bool false)), (.t (.int .i64 0)), (.t (.int .i64 0)), .nils, (.t (.int .i64 0)), (.t (.int .i64 0)), .nils, .nils, .nils, (.t (.bool false)), (.t (.bool false)), (.t (.int .i64 0)), .nils, .nils, .nils, (.t (.int .i64 0))] [⟨0, ⟨1, (.t 8)⟩⟩, ⟨1, ⟨1, (.t 10)⟩⟩, ⟨3, ⟨3, (.t 13)⟩⟩, ⟨6, ⟨3, (.t 16)⟩⟩])⟩), (.mk 11 false ⟨none, none, (.store 18 (.t 2) (.t 17))⟩)]) .ret)))
theorem k_spec_RecFall : comp Try.prog 18 (Try.f63.body.getD .skip) = some c_spec_RecFall := by kernel_rfl

def c_impl_RecFall : C := (.seq (.ops [⟨(some 1), none, (.box (.t 0))⟩, ⟨(some 2), none, (.new [(.t (.int .i64 0)), (.t (.int .i64 0)), (.t (.bool false)), (.t (.int .i64 0)), (.t (.int .i64 0)), .nils, (.t (.int .i64 0)), (.t (.int .i64 0)), .nils, .nils, .nils, (.t (.bool false)), (.t (.bool false)), (.t (.int .i64 0)), .nils, .nils, .nils, (.t (.int .i64 0))])⟩]) (.seq (.seq (.ops [⟨(some 4), none, (.load (some 18) (.t 1))⟩, ⟨(some 5), none, (.call (.c (.fn (.func 46) [])) [(.t 4)])⟩, ⟨(some 6), none, (.un .not (.t 5))⟩]) (.cond (.t 6) (.seq (.ops [⟨(some 7), none, (.build [(.t (.int .i64 0)), (.t (.int .i64 0)), (.t (.bool false)), (.t (.int .i64 0)), (.t (.int .i64 0)), .nils, (.t (.int .i64 0)), (.t (.int .i64 0)), .nils, .nils, .nils, (.t (.bool false)), (.t (.bool false)), (.t (.int .i64 0)), .nils, .nils, .nils, (.t (.int .i64 0))] [])⟩, ⟨none, none, (.store 18 (.t 2) (.t 7))⟩]) .ret) .skip)) (.seq (.ops [⟨(some 8), none, (.load (some 18) (.t 1))⟩, ⟨(some 9), none, (.call (.c (.fn (.func 127) [])) [(.t 8)])⟩, ⟨(some 3), none, (.new [(.t (.int .i64 0)), (.t (.int .i64 0)), (.t (.bool false)), (.t (.int .i64 0)), (.t (.int .i64 0)), .nils, (.t (.int .i64 0)), (.t (.int .i64 0)), .nils, .nils, .nils, (.t (.bool false)), (.t (.bool false)), (.t (.int .i64 0)), .nils, .nils, .nils, (.t (.int .i64 0))])⟩, ⟨none, none, (.store 18 (.t 3) (.t 9))⟩]) (.seq (.ops [⟨(some 10), none, (.call (.c (.fn (.func 128) [])) [(.t 3)])⟩]) (.seq (.ops [⟨(some 11), none, (.load (some 18) (.t 3))⟩, ⟨none, none, (.store 18 (.t 2) (.t 11))⟩]) .ret)))))
theorem k_impl_RecFall : comp Try.prog 12 (Try.f64.body.getD .skip) = some c_impl_RecFall := by kernel_rfl

def c___impl_Recorder__fall : C := (.drawn [(.mk 0 false ⟨(some 2), none, (.mv (.t 0))⟩), (.mk 1 false ⟨(some 3), none, (.mv (.t 0))⟩), (.mk 2 false ⟨(some 4), none, (.nilCheck (.t 3))⟩), (.mk 3 false ⟨(some 5), none, (.fieldAddr 0 (.t 4))⟩), (.mk 4 false ⟨(some 6), none, (.load none (.t 5))⟩), (.mk 5 false ⟨(some 7), none, (.mv (.t 0))⟩), (.mk 6 false ⟨(some 8), none, (.nilCheck (.t 7))⟩), (.mk 7 false ⟨(some 9), none, (.fieldAddr 1 (.t 8))⟩), (.mk 8 false ⟨(some 10), none, (.load none (.t 9))⟩), (.mk 9 false ⟨(some 11), none, (.mv (.t 0))⟩), (.mk 10 false ⟨(some 12), none, (.nilCheck (.t 11))⟩), (.mk 11 false ⟨(some 13), none, (.fieldAddr 3 (.t 12))⟩), (.mk 12 false ⟨(some 14), none, (.load (some 3) (.t 13))⟩), (.mk 13 false ⟨(some 15), none, (.mv (.t 0))⟩), (.mk 14 false ⟨(some 16), none, (.nilCheck (.t 15))⟩), (.mk 15 false ⟨(some 17), none, (.fieldAddr 3 (.t 16))⟩), (.mk 16 false ⟨(some 18), none, (.load (some 3) (.t 17))⟩), (.mk 17 true ⟨(some 19), none, (.call (.c (.fn (.func 153) [])) [(.t 18)])⟩), (.mk 18 false ⟨(some 20), none, (.build [(.t (.int .i64 0)), (.t (.int .i64 0)), (.t (.bool false)), (.t (.int .i64 0)), (.t (.int .i64 0)), .nils, (.t (.int .i64 0)), (.t (.int .i64 0)), .nils, .nils, .nils, (.t (.bool false)), (.t (.bool false)), (.t (.int .i64 0)), .nils, .nils, .nils, (.t (.int .i64 0))] [⟨0, ⟨1, (.t 6)⟩⟩, ⟨1, ⟨1, (.t 10)⟩⟩, ⟨3, ⟨3, (.t 14)⟩⟩, ⟨6, ⟨3, (.t 19)⟩⟩])⟩), (.mk 19 false ⟨(some 21), none, (.nilCheck (.t 2))⟩), (.mk 20 false ⟨none, none, (.store 18 (.t 21) (.t 20))⟩)])
theorem k___impl_Recorder__fall : comp Try.prog 22 (Try.f128.body.getD .skip) = some c___impl_Recorder__fall := by kernel_rfl

def zeroRec : Recorder := ⟨0, 0, false, ⟨0, 0, []⟩, ⟨0, 0, []⟩, [], [], false, false, 0, [], [], [], 0⟩
def fallR (r : Recorder) : Recorder := ⟨r.Number, r.Of, false, r.Safe, r.Safe, [], [], false, false, 0, [], [], [], 0⟩
def fallRes (r : Recorder) : Recorder := if validR r = true then fallR r else zeroRec
def resT_RecFall (r : Recorder) : List T := (fallRes r).ts
def zeroVs : List V := [.t (.int .i64 0), .t (.int .i64 0), .t (.bool false), .t (.int .i64 0), .t (.int .i64 0), .nils, .t (.int .i64 0), .t (.int .i64 0), .nils, .nils, .nils, .t (.bool false), .t (.bool false), .t (.int .i64 0), .nils, .nils, .nils, .t (.int .i64 0)]
theorem own_nil {σ : Store} {n : Nat} (h : 0 < n) : Own σ (.lst n []) .nils [] := by simp [Own, h]
theorem own_zeroRec (σ : Store) : OwnL σ zeroRec.ts zeroVs [] :=
  (.int (.int (.bool (.int (.int (.lst (is := []) (own_nil (by omega)) (.int (.int (.lst (is := []) (own_nil (by omega)) (.lst (is := []) (own_nil (by omega)) (.lst (is := []) (own_nil (by omega)) (.bool (.bool (.int (.lst (is := []) (own_nil (by omega)) (.lst (is := []) (own_nil (by omega)) (.lst (is := []) (own_nil (by omega)) (.int .nil0))))))))))))))))))
theorem own_fall {σ : Store} {r : Recorder} {u v : V} {i j : List Nat} (hu : Own σ (tRecSlotS r.Safe.Slots) u i) (hv : Own σ (tRecSlotS r.Safe.Slots) v j) :
    OwnL σ (fallR r).ts [.t (.int .i64 r.Number), .t (.int .i64 r.Of), .t (.bool false), .t (.int .i64 r.Safe.Promise), .t (.int .i64 r.Safe.Known), u, .t (.int .i64 r.Safe.Promise), .t (.int .i64 r.Safe.Known), v, .nils, .nils, .t (.bool false), .t (.bool false), .t (.int .i64 0), .nils, .nils, .nils, .t (.int .i64 0)] (i ++ (j ++ [])) :=
  (.int (.int (.bool (.int (.int (.lst hu (.int (.int (.lst hv (.lst (is := []) (own_nil (by omega)) (.lst (is := []) (own_nil (by omega)) (.bool (.bool (.int (.lst (is := []) (own_nil (by omega)) (.lst (is := []) (own_nil (by omega)) (.lst (is := []) (own_nil (by omega)) (.int .nil0))))))))))))))))))
theorem spec_l21DiskF (d : RecDisk) (hd : d.Ok) (σ : Store) : ACalls Try.prog 126 [.agg d.vs] σ fun r σ' => r = .agg d.vs ∧ σ' = σ := acalls_frzTL (spec_l21Disk d hd σ)
theorem specF_RecFall (r : Recorder) (hr : r.Ok) (σ : Store) : ACalls Try.prog 63 [.agg r.vs] σ fun rr σ' => rr = .agg ((resT_RecFall r).map .t) ∧ σ' = σ := by
  refine acalls_frzL ?_
  refine acalls_of Try.func63 (by decide +kernel) (code := Try.f63.body.getD .skip) (n := 18) (c := c_spec_RecFall) (rs := [(.cell 2 (some 18))]) rfl rfl k_spec_RecFall (by kernel_rfl) (by simp) (fun hσ => ?_)
  simp -implicitDefEqProofs only [c_spec_RecFall, Recorder.vs, S0, S1, S2, S3, S4, S5, S6, S7, S8, S9, S10, S11, S12, S13, S14, S15, opv, opvs, eget, env0, setD, lenStr, lenSl, isNilP, isNilS, putAt, if_true, if_false, reduceCtorEq, Nat.reduceLeDiff, Nat.reduceEqDiff, Nat.reduceSub, Nat.reduceMul, Nat.reduceAdd]
  refine call_pure (spec_RecValid r hr _) ?_
  simp -implicitDefEqProofs only [S0, S1, S2, S3, S4, S5, S6, S7, S8, S9, S10, S11, S12, S13, S14, S15, opv, opvs, eget, env0, setD, lenStr, lenSl, isNilP, isNilS, putAt, if_true, if_false, reduceCtorEq, Nat.reduceLeDiff, Nat.reduceEqDiff, Nat.reduceSub, Nat.reduceMul, Nat.reduceAdd]
  refine cond_split (fun h => ?_) (fun h => ?_)
  · have hv : validR r = false := by simpa using h
    simp -implicitDefEqProofs only [S0, S1, S2, S3, S4, S5, S6, S7, S8, S9, S10, S11, S12, S13, S14, S15, opv, opvs, eget, env0, setD, lenStr, lenSl, isNilP, isNilS, putAt, if_true, if_false, reduceCtorEq, Nat.reduceLeDiff, Nat.reduceEqDiff, Nat.reduceSub, Nat.reduceMul, Nat.reduceAdd]
    refine fin_keep (by simp) ⟨_, zeroVs, rfl, rfl, ?_⟩
    simp only [resT_RecFall, fallRes, hv, Bool.false_eq_true, if_false]
    exact (own_zeroRec _).seesF (by simp)
  · have hv : validR r = true := by simpa using h
    simp -implicitDefEqProofs only [S0, S1, S2, S3, S4, S5, S6, S7, S8, S9, S10, S11, S12, S13, S14, S15, opv, opvs, eget, env0, setD, lenStr, lenSl, isNilP, isNilS, putAt, if_true, if_false, reduceCtorEq, Nat.reduceLeDiff, Nat.reduceEqDiff, Nat.reduceSub, Nat.reduceMul, Nat.reduceAdd]
    refine call_pure (spec_l21DiskF r.Safe hr.Safe _) ?_
    simp -implicitDefEqProofs only [RecDisk.vs, S0, S1, S2, S3, S4, S5, S6, S7, S8, S9, S10, S11, S12, S13, S14, S15, opv, opvs, eget, env0, setD, lenStr, lenSl, isNilP, isNilS, putAt, if_true, if_false, reduceCtorEq, Nat.reduceLeDiff, Nat.reduceEqDiff, Nat.reduceSub, Nat.reduceMul, Nat.reduceAdd]
    refine call_pure (spec_l21DiskF r.Safe hr.Safe _) ?_
    simp -implicitDefEqProofs only [RecDisk.vs, S0, S1, S2, S3, S4, S5, S6, S7, S8, S9, S10, S11, S12, S13, S14, S15, opv, opvs, eget, env0, setD, lenStr, lenSl, isNilP, isNilS, putAt, if_true, if_false, reduceCtorEq, Nat.reduceLeDiff, Nat.reduceEqDiff, Nat.reduceSub, Nat.reduceMul, Nat.reduceAdd]
    refine fin_keep (by simp) ⟨_, _, rfl, rfl, ?_⟩
    simp only [resT_RecFall, fallRes, hv, if_true]
    simp only [fallR, Recorder.ts, SeesFL, List.map_nil]
    exact ⟨_, _, rfl, seesF_t _, _, _, rfl, seesF_t _, _, _, rfl, seesF_t _, _, _, rfl, seesF_t _, _, _, rfl, seesF_t _, _, _, rfl, seesF_t _, _, _, rfl, seesF_t _, _, _, rfl, seesF_t _, _, _, rfl, seesF_t _, _, _, rfl, seesF_nils (by omega), _, _, rfl, seesF_nils (by omega), _, _, rfl, seesF_t _, _, _, rfl, seesF_t _, _, _, rfl, seesF_t _, _, _, rfl, seesF_nils (by omega), _, _, rfl, seesF_nils (by omega), _, _, rfl, seesF_nils (by omega), _, _, rfl, seesF_t _, rfl⟩
/-- A recorder's cells, one's own. -/
theorem own18 {s : Store} {r : Recorder} {us : List V} {is : List Nat} (h : OwnL s r.ts us is) : ∃ u5 u8 u9 u10 u14 u15 u16 i5 i8 i9 i10 i14 i15 i16,
    us = [.t (.int .i64 r.Number), .t (.int .i64 r.Of), .t (.bool r.Up), .t (.int .i64 r.Safe.Promise), .t (.int .i64 r.Safe.Known), u5, .t (.int .i64 r.Disk.Promise), .t (.int .i64 r.Disk.Known), u8, u9, u10, .t (.bool r.Lead), .t (.bool r.Trying), .t (.int .i64 r.Ballot), u14, u15, u16, .t (.int .i64 r.Heard)] ∧
    is = i5 ++ (i8 ++ (i9 ++ (i10 ++ (i14 ++ (i15 ++ (i16 ++ [])))))) ∧ Own s (tRecSlotS r.Safe.Slots) u5 i5 ∧ Own s (tRecSlotS r.Disk.Slots) u8 i8 ∧ Own s (tRecMessageS r.Held) u9 i9 ∧ Own s (tStrs r.Wishes) u10 i10 ∧ Own s (tInts r.Yes) u14 i14 ∧ Own s (tRecSlotS r.Best) u15 i15 ∧ Own s (tRecAckS r.Acks) u16 i16 := by
  unfold Recorder.ts at h
  have oi : ∀ {n : Int} {ts : List T} {us : List V} {is : List Nat}, OwnL s (.int .i64 n :: ts) us is → ∃ us', us = .t (.int .i64 n) :: us' ∧ OwnL s ts us' is := by
    intro n ts us is h
    simp only [OwnL, Own] at h
    obtain ⟨_, us', _, j, rfl, rfl, ⟨rfl, rfl⟩, h⟩ := h
    exact ⟨us', rfl, by simpa using h⟩
  have ob : ∀ {n : Bool} {ts : List T} {us : List V} {is : List Nat}, OwnL s (.bool n :: ts) us is → ∃ us', us = .t (.bool n) :: us' ∧ OwnL s ts us' is := by
    intro n ts us is h
    simp only [OwnL, Own] at h
    obtain ⟨_, us', _, j, rfl, rfl, ⟨rfl, rfl⟩, h⟩ := h
    exact ⟨us', rfl, by simpa using h⟩
  have ol : ∀ {t : T} {ts : List T} {us : List V} {is : List Nat}, OwnL s (t :: ts) us is → ∃ u us' i j, us = u :: us' ∧ is = i ++ j ∧ Own s t u i ∧ OwnL s ts us' j := by
    intro t ts us is h
    simpa only [OwnL] using h
  obtain ⟨_, rfl, g0⟩ := oi h
  clear h
  obtain ⟨_, rfl, g1⟩ := oi g0
  clear g0
  obtain ⟨_, rfl, g2⟩ := ob g1
  clear g1
  obtain ⟨_, rfl, g3⟩ := oi g2
  clear g2
  obtain ⟨_, rfl, g4⟩ := oi g3
  clear g3
  obtain ⟨u5, _, i5, _, rfl, rfl, h5, g5⟩ := ol g4
  clear g4
  obtain ⟨_, rfl, g6⟩ := oi g5
  clear g5
  obtain ⟨_, rfl, g7⟩ := oi g6
  clear g6
  obtain ⟨u8, _, i8, _, rfl, rfl, h8, g8⟩ := ol g7
  clear g7
  obtain ⟨u9, _, i9, _, rfl, rfl, h9, g9⟩ := ol g8
  clear g8
  obtain ⟨u10, _, i10, _, rfl, rfl, h10, g10⟩ := ol g9
  clear g9
  obtain ⟨_, rfl, g11⟩ := ob g10
  clear g10
  obtain ⟨_, rfl, g12⟩ := ob g11
  clear g11
  obtain ⟨_, rfl, g13⟩ := oi g12
  clear g12
  obtain ⟨u14, _, i14, _, rfl, rfl, h14, g14⟩ := ol g13
  clear g13
  obtain ⟨u15, _, i15, _, rfl, rfl, h15, g15⟩ := ol g14
  clear g14
  obtain ⟨u16, _, i16, _, rfl, rfl, h16, g16⟩ := ol g15
  clear g15
  obtain ⟨_, rfl, g17⟩ := oi g16
  clear g16
  simp only [OwnL] at g17
  obtain ⟨rfl, rfl⟩ := g17
  exact ⟨u5, u8, u9, u10, u14, u15, u16, i5, i8, i9, i10, i14, i15, i16, rfl, rfl, h5, h8, h9, h10, h14, h15, h16⟩
theorem wi_left {i j : List Nat} {a b : Nat} (w : Wi (i ++ j) a b) : Wi i a b := ⟨(List.nodup_append.1 w.1).1, fun x hx => w.2 x (by simp [hx])⟩
theorem wi_right {i j : List Nat} {a b : Nat} (w : Wi (i ++ j) a b) : Wi j a b := ⟨(List.nodup_append.1 w.1).2.1, fun x hx => w.2 x (by simp [hx])⟩
/-- What the program's fall does to a variable that holds a recorder. -/
theorem impl_fall (r : Recorder) (hr : r.Ok) (s : Store) (id : Nat) (u5 u8 u9 u10 u14 u15 u16 : V) (c2 c6 c7 c11 c12 c13 c17 : T) (j : List Nat)
    (e : s[id]? = some (.box [.t (.int .i64 r.Number), .t (.int .i64 r.Of), .t c2, .t (.int .i64 r.Safe.Promise), .t (.int .i64 r.Safe.Known), u5, .t c6, .t c7, u8, u9, u10, .t c11, .t c12, .t c13, u14, u15, u16, .t c17])) (hu : Own s (tRecSlotS r.Safe.Slots) u5 j) (hj : id ∉ j) :
    ACalls Try.prog 128 [.ptr id 0] s fun rr s' => ∃ τ v i, s' = (s ++ τ).set id (.box [.t (.int .i64 r.Number), .t (.int .i64 r.Of), .t (.bool false), .t (.int .i64 r.Safe.Promise), .t (.int .i64 r.Safe.Known), u5, .t (.int .i64 r.Safe.Promise), .t (.int .i64 r.Safe.Known), v, .nils, .nils, .t (.bool false), .t (.bool false), .t (.int .i64 0), .nils, .nils, .nils, .t (.int .i64 0)]) ∧ Own (s ++ τ) (tRecSlotS r.Safe.Slots) v i ∧ Wi i s.length (s ++ τ).length := by
  refine acalls_of Try.func128 (by decide +kernel) (code := Try.f128.body.getD .skip) (n := 22) (c := c___impl_Recorder__fall) (rs := []) rfl rfl k___impl_Recorder__fall (by kernel_rfl) (by simp) (fun hσ => ?_)
  have o5 := hu.one
  have hid := (List.getElem?_eq_some_iff.1 e).1
  simp -implicitDefEqProofs only [c___impl_Recorder__fall, e, o5, S0, S1, S2, S3, S4, S5, S6, S7, S8, S9, S10, S11, S12, S13, S14, S15, opv, opvs, eget, env0, setD, lenStr, lenSl, isNilP, isNilS, putAt, if_true, if_false, reduceCtorEq, Nat.reduceLeDiff, Nat.reduceEqDiff, Nat.reduceSub, Nat.reduceMul, Nat.reduceAdd]
  refine call_by (by rw [List.append_nil]; exact acalls_toL (impl_cloneDisk r.Safe hr.Safe) ⟨_, _, rfl, .inr ⟨r.Safe.ts, _, rfl, rfl, (OwnL.int (OwnL.int (OwnL.lst hu OwnL.nil0))).sees⟩, rfl⟩) ?_
  rintro v s' ⟨us, τ, i, rfl, rfl, o, w⟩
  obtain ⟨u, rfl, O⟩ := own3 o
  have o6 := O.one
  have e' : (s ++ τ)[id]? = some (.box [.t (.int .i64 r.Number), .t (.int .i64 r.Of), .t c2, .t (.int .i64 r.Safe.Promise), .t (.int .i64 r.Safe.Known), u5, .t c6, .t c7, u8, u9, u10, .t c11, .t c12, .t c13, u14, u15, u16, .t c17]) := (Kp.app s τ).box e
  simp -implicitDefEqProofs only [e', one_cells o5, one_cells o6, o5, o6, S0, S1, S2, S3, S4, S5, S6, S7, S8, S9, S10, S11, S12, S13, S14, S15, opv, opvs, eget, env0, setD, lenStr, lenSl, isNilP, isNilS, putAt, if_true, if_false, reduceCtorEq, Nat.reduceLeDiff, Nat.reduceEqDiff, Nat.reduceSub, Nat.reduceMul, Nat.reduceAdd]
  refine fin_keep (by simp) ⟨τ, u, i, rfl, O, by simpa using w⟩
theorem implO_RecFall (r : Recorder) (hr : r.Ok) (σ : Store) : ACalls Try.prog 64 [.agg r.vs] σ (ToLR (resT_RecFall r) σ) := by
  refine acalls_of Try.func64 (by decide +kernel) (code := Try.f64.body.getD .skip) (n := 12) (c := c_impl_RecFall) (rs := [(.cell 2 (some 18))]) rfl rfl k_impl_RecFall (by kernel_rfl) (by simp) (fun hσ => ?_)
  simp -implicitDefEqProofs only [c_impl_RecFall, Recorder.vs, S0, S1, S2, S3, S4, S5, S6, S7, S8, S9, S10, S11, S12, S13, S14, S15, opv, opvs, eget, env0, setD, lenStr, lenSl, isNilP, isNilS, putAt, if_true, if_false, reduceCtorEq, Nat.reduceLeDiff, Nat.reduceEqDiff, Nat.reduceSub, Nat.reduceMul, Nat.reduceAdd]
  refine call_pure (impl_RecValid r hr _) ?_
  simp -implicitDefEqProofs only [S0, S1, S2, S3, S4, S5, S6, S7, S8, S9, S10, S11, S12, S13, S14, S15, opv, opvs, eget, env0, setD, lenStr, lenSl, isNilP, isNilS, putAt, if_true, if_false, reduceCtorEq, Nat.reduceLeDiff, Nat.reduceEqDiff, Nat.reduceSub, Nat.reduceMul, Nat.reduceAdd]
  refine cond_split (fun h => ?_) (fun h => ?_)
  · have hv : validR r = false := by simpa using h
    simp -implicitDefEqProofs only [S0, S1, S2, S3, S4, S5, S6, S7, S8, S9, S10, S11, S12, S13, S14, S15, opv, opvs, eget, env0, setD, lenStr, lenSl, isNilP, isNilS, putAt, if_true, if_false, reduceCtorEq, Nat.reduceLeDiff, Nat.reduceEqDiff, Nat.reduceSub, Nat.reduceMul, Nat.reduceAdd]
    refine fin_keep (by simp) ⟨zeroVs, _, [], rfl, rfl, ?_, Wi.nil⟩
    simp only [resT_RecFall, fallRes, hv, Bool.false_eq_true, if_false]
    exact own_zeroRec _
  · have hv : validR r = true := by simpa using h
    simp -implicitDefEqProofs only [S0, S1, S2, S3, S4, S5, S6, S7, S8, S9, S10, S11, S12, S13, S14, S15, opv, opvs, eget, env0, setD, lenStr, lenSl, isNilP, isNilS, putAt, if_true, if_false, reduceCtorEq, Nat.reduceLeDiff, Nat.reduceEqDiff, Nat.reduceSub, Nat.reduceMul, Nat.reduceAdd]
    refine call_newL (impl_clone_rec r hr _) ?_
    rintro us s is le k o w
    have e6 := k (σ.length + 1) (by simp)
    simp -implicitDefEqProofs only [S0, S1, S2, S3, S4, S5, S6, S7, S8, S9, S10, S11, S12, S13, S14, S15, opv, opvs, eget, env0, setD, lenStr, lenSl, isNilP, isNilS, putAt, if_true, if_false, reduceCtorEq, Nat.reduceLeDiff, Nat.reduceEqDiff, Nat.reduceSub, Nat.reduceMul, Nat.reduceAdd] at e6
    simp only [List.length_append, List.length_cons, List.length_nil] at le w
    obtain ⟨u5, u8, u9, u10, u14, u15, u16, i5, i8, i9, i10, i14, i15, i16, rfl, rfl, O5, O8, O9, O10, O14, O15, O16⟩ := own18 o
    have n5 := O5.one
    have n8 := O8.one
    have n9 := O9.one
    have n10 := O10.one
    have n14 := O14.one
    have n15 := O15.one
    have n16 := O16.one
    have w5 := wi_left w
    simp -implicitDefEqProofs only [n5, n8, n9, n10, n14, n15, n16, S0, S1, S2, S3, S4, S5, S6, S7, S8, S9, S10, S11, S12, S13, S14, S15, opv, opvs, eget, env0, setD, lenStr, lenSl, isNilP, isNilS, putAt, if_true, if_false, reduceCtorEq, Nat.reduceLeDiff, Nat.reduceEqDiff, Nat.reduceSub, Nat.reduceMul, Nat.reduceAdd]
    refine call_by (by rw [List.append_nil]; exact impl_fall r hr _ _ u5 u8 u9 u10 u14 u15 u16 (.bool r.Up) (.int .i64 r.Disk.Promise) (.int .i64 r.Disk.Known) (.bool r.Lead) (.bool r.Trying) (.int .i64 r.Ballot) (.int .i64 r.Heard) i5 (by simp) ((Kp.app _ _).own O5) (wi_out w5 (by omega))) ?_
    rintro rr s' ⟨τ, v, i, rfl, O, w'⟩
    have nv := O.one
    have e7 := fun l => (Kp.app s l).box e6
    have e8 : ∀ l Y, ((s ++ l).set (σ.length + 1) Y)[σ.length + 1]? = some Y := fun l Y => List.getElem?_set_self (by simp; omega)
    simp -implicitDefEqProofs only [e7, e8, n5, nv, S0, S1, S2, S3, S4, S5, S6, S7, S8, S9, S10, S11, S12, S13, S14, S15, opv, opvs, eget, env0, setD, lenStr, lenSl, isNilP, isNilS, putAt, if_true, if_false, reduceCtorEq, Nat.reduceLeDiff, Nat.reduceEqDiff, Nat.reduceSub, Nat.reduceMul, Nat.reduceAdd]
    have W' := w'
    simp only [List.length_append, List.length_cons, List.length_nil] at w'
    refine fin_keep (by simp; omega) ⟨_, _, i5 ++ (i ++ []), rfl, kp_split ((Kp.trans (Kp.app _ _) (by simp) (kp_app2 k)).set (by omega)) (by simp; omega), ?_, ?_⟩
    · simp only [resT_RecFall, fallRes, hv, if_true]
      refine own_fall (set_own ((Kp.app _ _).own O5) (wi_out w5 (by omega))) (set_own (own_pre (σ := s) (A := [_]) (A' := [_]) (B := τ) O W' (List.append_assoc ..) rfl (by simp) (by simp) (by simp)) (wi_out w' (by omega)))
    · refine wi_join w5 (wi_last w' (Nat.le_refl _) (Nat.le_refl _)) (by omega) (by omega) (by simp only [List.length_set, List.length_append, List.length_cons]; omega) (by omega) (by simp only [List.length_set, List.length_append, List.length_cons]; omega)
theorem len_zeroRec : T.sizeL zeroRec.ts = 0 := by
  simp only [zeroRec, Recorder.ts, List.map_nil]
  rw [sizeRecorder]
  simp only [size_lst, sizeR_nil, List.length_nil]
theorem is_nilS {n : Nat} {cs : List Sh} : T.is (.sl n cs) (.lst n []) := by simp only [T.is]; exact ⟨[], rfl, by simp, by simp⟩
theorem wf0' : (Lit.int .i64 0).wf = true := by decide
theorem is_zeroRec : T.isL shRecorder zeroRec.ts := mkRecorder wf0' wf0' wf0' wf0' is_nilS wf0' wf0' is_nilS is_nilS is_nilS wf0' is_nilS is_nilS is_nilS wf0'
theorem res_RecFall (r : Recorder) (h : T.isL shRecorder r.ts) (z : T.sizeL r.ts ≤ 1048576) (o : r.Ok) : T.isL shRecorder (resT_RecFall r) ∧ T.sizeL (resT_RecFall r) ≤ 8388608 := by
  unfold resT_RecFall fallRes
  split
  · obtain ⟨n0, n1, n2, n3, n4, n5, n6, n7, n8, n9, n10, n11, n12, n13, n14, n15, n16, n17, e, b0, b1, b3, b4, b5, b6, b7, b8, b9, b10, b13, b14, b15, b16, b17⟩ := isRecorder h
    unfold Recorder.ts at e
    injection e with e0 e
    injection e with e1 e
    injection e with e2 e
    injection e with e3 e
    injection e with e4 e
    injection e with e5 e
    cases e0
    cases e1
    cases e3
    cases e4
    subst e5
    refine ⟨mkRecorder b0 b1 b3 b4 b5 b3 b4 b5 is_nilS is_nilS wf0' is_nilS is_nilS is_nilS wf0', ?_⟩
    unfold Recorder.ts at z
    rw [sizeRecorder] at z
    simp only [fallR, Recorder.ts, List.map_nil]
    rw [sizeRecorder]
    simp only [size_lst, sizeR_nil, List.length_nil] at z ⊢
    omega
  · exact ⟨is_zeroRec, by rw [len_zeroRec]; omega⟩
end Go.Proofs.Ytleilaipdhmgeaa.W
