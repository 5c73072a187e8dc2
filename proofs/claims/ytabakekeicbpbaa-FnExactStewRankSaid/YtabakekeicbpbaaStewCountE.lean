/- Counts of copies. Conditions: none. -/
/- Counts compared. Conditions: none. -/
import Derived.Test.YtabakekeicbpbaaStewValidI
import Derived.Test.YtabakekeicbpbaaAb4
set_option linter.unusedSimpArgs false
set_option linter.unusedVariables false
set_option linter.defProp false

section
open Go Go.Ab
set_option maxHeartbeats 2000000
namespace Go.Proofs.Ytabakekeicbpbaa.W
def c_spec_l13Count : C := (.seq (.ops [⟨(some 2), none, (.box (.t 0))⟩, ⟨(some 4), none, (.new [(.t (.int .i64 0)), (.t (.int .i64 0)), (.t (.int .i64 0)), (.t (.int .i64 0)), (.t (.int .i64 0))])⟩]) (.seq (.ops [⟨(some 9), none, (.build [(.t (.int .i64 0)), (.t (.int .i64 0)), (.t (.int .i64 0)), (.t (.int .i64 0)), (.t (.int .i64 0))] [])⟩, ⟨(some 5), none, (.new [(.t (.int .i64 0)), (.t (.int .i64 0)), (.t (.int .i64 0)), (.t (.int .i64 0)), (.t (.int .i64 0))])⟩, ⟨none, none, (.store 5 (.t 5) (.t 9))⟩]) (.seq (.ops [⟨(some 10), none, (.load (some 4) (.t 2))⟩, ⟨(some 11), none, (.mv (.t 1))⟩, ⟨(some 12), none, (.call (.c (.fn (.func 78) [])) [(.t 10), (.t 11)])⟩, ⟨(some 6), none, (.mv (.t 12))⟩]) (.seq (.seq (.ops [⟨(some 7), none, (.mv (.c (.t (.int .i64 0))))⟩]) (.block 0 (.loop (.seq (.seq (.ops [⟨(some 13), none, (.mv (.t 7))⟩, ⟨(some 14), none, (.fieldAddr 2 (.t 2))⟩, ⟨(some 15), none, (.load none (.t 14))⟩, ⟨(some 16), none, (.len false (.t 15))⟩, ⟨(some 17), none, (.bin .lss (.t 13) (.t 16))⟩, ⟨(some 18), none, (.mv (.t 17))⟩, ⟨(some 19), (some ⟨18, true⟩), (.mv (.t 6))⟩, ⟨(some 20), (some ⟨18, true⟩), (.bin .geq (.t 19) (.c (.t (.int .i64 0))))⟩, ⟨(some 21), none, (.pick (.t 18) (.t 20) (.c (.t (.bool false))))⟩]) (.cond (.t 21) .skip (.exit 0))) (.seq (.block 1 (.seq (.ops [⟨(some 24), none, (.fieldAddr 2 (.t 2))⟩, ⟨(some 25), none, (.load none (.t 24))⟩, ⟨(some 26), none, (.mv (.t 7))⟩, ⟨(some 27), none, (.indexAddr 7 (.t 25) (.t 26))⟩, ⟨(some 28), none, (.load (some 7) (.t 27))⟩, ⟨(some 8), none, (.new [(.t (.str [])), (.t (.int .i64 0)), (.t (.int .i64 0)), (.t (.int .i64 0)), (.t (.int .i64 0)), (.t (.bool false)), (.t (.str []))])⟩, ⟨none, none, (.store 7 (.t 8) (.t 28))⟩]) (.seq (.seq (.ops [⟨(some 29), none, (.fieldAddr 0 (.t 8))⟩, ⟨(some 30), none, (.load none (.t 29))⟩, ⟨(some 31), none, (.mv (.t 1))⟩, ⟨(some 32), none, (.bin .neq (.t 30) (.t 31))⟩]) (.cond (.t 32) (.exit 1) .skip)) (.seq (.seq (.ops [⟨(some 33), none, (.fieldAddr 5 (.t 8))⟩, ⟨(some 34), none, (.load none (.t 33))⟩]) (.cond (.t 34) (.seq (.ops [⟨(some 35), none, (.fieldAddr 4 (.t 5))⟩, ⟨(some 36), none, (.load none (.t 35))⟩, ⟨(some 37), none, (.bin .add (.t 36) (.c (.t (.int .i64 1))))⟩, ⟨(some 38), none, (.fieldAddr 4 (.t 5))⟩, ⟨none, none, (.store 1 (.t 38) (.t 37))⟩]) (.exit 1)) .skip)) (.seq (.ops [⟨(some 39), none, (.fieldAddr 0 (.t 5))⟩, ⟨(some 40), none, (.load none (.t 39))⟩, ⟨(some 41), none, (.bin .add (.t 40) (.c (.t (.int .i64 1))))⟩, ⟨(some 42), none, (.fieldAddr 0 (.t 5))⟩, ⟨none, none, (.store 1 (.t 42) (.t 41))⟩]) (.seq (.seq (.ops [⟨(some 43), none, (.fieldAddr 4 (.t 8))⟩, ⟨(some 44), none, (.load none (.t 43))⟩, ⟨(some 45), none, (.bin .eql (.t 44) (.c (.t (.int .i64 3))))⟩]) (.cond (.t 45) (.ops [⟨(some 46), none, (.fieldAddr 1 (.t 5))⟩, ⟨(some 47), none, (.load none (.t 46))⟩, ⟨(some 48), none, (.bin .add (.t 47) (.c (.t (.int .i64 1))))⟩, ⟨(some 49), none, (.fieldAddr 1 (.t 5))⟩, ⟨none, none, (.store 1 (.t 49) (.t 48))⟩]) .skip)) (.seq (.seq (.ops [⟨(some 50), none, (.fieldAddr 4 (.t 8))⟩, ⟨(some 51), none, (.load none (.t 50))⟩, ⟨(some 52), none, (.bin .eql (.t 51) (.c (.t (.int .i64 4))))⟩]) (.cond (.t 52) (.ops [⟨(some 53), none, (.fieldAddr 3 (.t 5))⟩, ⟨(some 54), none, (.load none (.t 53))⟩, ⟨(some 55), none, (.bin .add (.t 54) (.c (.t (.int .i64 1))))⟩, ⟨(some 56), none, (.fieldAddr 3 (.t 5))⟩, ⟨none, none, (.store 1 (.t 56) (.t 55))⟩]) .skip)) (.seq (.drawn [(.mk 0 false ⟨(some 57), none, (.fieldAddr 3 (.t 8))⟩), (.mk 1 false ⟨(some 58), none, (.load none (.t 57))⟩), (.mk 2 false ⟨(some 59), none, (.fieldAddr 1 (.t 2))⟩), (.mk 3 false ⟨(some 60), none, (.load none (.t 59))⟩), (.mk 4 false ⟨(some 61), none, (.mv (.t 6))⟩), (.mk 5 false ⟨(some 62), none, (.indexAddr 13 (.t 60) (.t 61))⟩), (.mk 6 false ⟨(some 63), none, (.fieldAddr 3 (.t 62))⟩), (.mk 7 false ⟨(some 64), none, (.load none (.t 63))⟩), (.mk 8 false ⟨(some 65), none, (.bin .neq (.t 58) (.t 64))⟩)]) (.cond (.t 65) (.ops [⟨(some 66), none, (.fieldAddr 2 (.t 5))⟩, ⟨(some 67), none, (.load none (.t 66))⟩, ⟨(some 68), none, (.bin .add (.t 67) (.c (.t (.int .i64 1))))⟩, ⟨(some 69), none, (.fieldAddr 2 (.t 5))⟩, ⟨none, none, (.store 1 (.t 69) (.t 68))⟩]) .skip))))))))) (.ops [⟨(some 22), none, (.mv (.t 7))⟩, ⟨(some 23), none, (.bin .add (.t 22) (.c (.t (.int .i64 1))))⟩, ⟨(some 7), none, (.mv (.t 23))⟩])))))) (.seq (.ops [⟨(some 70), none, (.load (some 5) (.t 5))⟩, ⟨none, none, (.store 5 (.t 4) (.t 70))⟩]) .ret)))))
theorem k_spec_l13Count : comp Try.prog 71 (Try.f57.body.getD .skip) = some c_spec_l13Count := by kernel_rfl

def c___impl_StewBook__count : C := (.seq (.ops [⟨(some 4), none, (.new [(.t (.int .i64 0)), (.t (.int .i64 0)), (.t (.int .i64 0)), (.t (.int .i64 0)), (.t (.int .i64 0))])⟩]) (.seq (.ops [⟨(some 5), none, (.new [(.t (.int .i64 0)), (.t (.int .i64 0)), (.t (.int .i64 0)), (.t (.int .i64 0)), (.t (.int .i64 0))])⟩]) (.seq (.seq (.ops [⟨(some 8), none, (.mv (.t 0))⟩, ⟨(some 9), none, (.nilCheck (.t 8))⟩, ⟨(some 10), none, (.fieldAddr 2 (.t 9))⟩, ⟨(some 11), none, (.load none (.t 10))⟩, ⟨(some 12), none, (.len false (.t 11))⟩, ⟨(some 13), none, (.mv (.c (.t (.int .i64 0))))⟩]) (.block 0 (.loop (.seq (.ops [⟨(some 14), none, (.bin .lss (.t 13) (.t 12))⟩]) (.seq (.cond (.t 14) .skip (.exit 0)) (.seq (.block 1 (.seq (.ops [⟨(some 15), none, (.indexAddr 7 (.t 11) (.t 13))⟩, ⟨(some 16), none, (.load (some 7) (.t 15))⟩, ⟨(some 7), none, (.new [(.t (.str [])), (.t (.int .i64 0)), (.t (.int .i64 0)), (.t (.int .i64 0)), (.t (.int .i64 0)), (.t (.bool false)), (.t (.str []))])⟩, ⟨none, none, (.store 7 (.t 7) (.t 16))⟩]) (.block 2 (.seq (.drawn [(.mk 0 false ⟨(some 47), none, (.fieldAddr 0 (.t 7))⟩), (.mk 1 false ⟨(some 48), none, (.load none (.t 47))⟩), (.mk 2 false ⟨(some 49), none, (.mv (.t 1))⟩), (.mk 3 false ⟨(some 50), none, (.nilCheck (.t 49))⟩), (.mk 4 false ⟨(some 51), none, (.fieldAddr 0 (.t 50))⟩), (.mk 5 false ⟨(some 52), none, (.load none (.t 51))⟩), (.mk 6 false ⟨(some 53), none, (.bin .neq (.t 48) (.t 52))⟩), (.mk 7 false ⟨(some 46), none, (.mv (.t 53))⟩)]) (.cond (.t 46) .skip (.seq (.ops [⟨(some 55), none, (.fieldAddr 5 (.t 7))⟩, ⟨(some 56), none, (.load none (.t 55))⟩, ⟨(some 54), none, (.mv (.t 56))⟩]) (.cond (.t 54) (.ops [⟨(some 57), none, (.fieldAddr 4 (.t 5))⟩, ⟨(some 58), none, (.load none (.t 57))⟩, ⟨(some 59), none, (.bin .add (.t 58) (.c (.t (.int .i64 1))))⟩, ⟨(some 60), none, (.fieldAddr 4 (.t 5))⟩, ⟨none, none, (.store 1 (.t 60) (.t 59))⟩]) (.seq (.ops [⟨(some 17), none, (.fieldAddr 0 (.t 5))⟩, ⟨(some 18), none, (.load none (.t 17))⟩, ⟨(some 19), none, (.bin .add (.t 18) (.c (.t (.int .i64 1))))⟩, ⟨(some 20), none, (.fieldAddr 0 (.t 5))⟩, ⟨none, none, (.store 1 (.t 20) (.t 19))⟩]) (.seq (.seq (.ops [⟨(some 21), none, (.fieldAddr 4 (.t 7))⟩, ⟨(some 22), none, (.load none (.t 21))⟩, ⟨(some 23), none, (.bin .eql (.t 22) (.c (.t (.int .i64 3))))⟩]) (.cond (.t 23) (.ops [⟨(some 24), none, (.fieldAddr 1 (.t 5))⟩, ⟨(some 25), none, (.load none (.t 24))⟩, ⟨(some 26), none, (.bin .add (.t 25) (.c (.t (.int .i64 1))))⟩, ⟨(some 27), none, (.fieldAddr 1 (.t 5))⟩, ⟨none, none, (.store 1 (.t 27) (.t 26))⟩]) .skip)) (.seq (.seq (.drawn [(.mk 0 false ⟨(some 28), none, (.fieldAddr 3 (.t 7))⟩), (.mk 1 false ⟨(some 29), none, (.load none (.t 28))⟩), (.mk 2 false ⟨(some 30), none, (.mv (.t 1))⟩), (.mk 3 false ⟨(some 31), none, (.nilCheck (.t 30))⟩), (.mk 4 false ⟨(some 32), none, (.fieldAddr 3 (.t 31))⟩), (.mk 5 false ⟨(some 33), none, (.load none (.t 32))⟩), (.mk 6 false ⟨(some 34), none, (.bin .neq (.t 29) (.t 33))⟩)]) (.cond (.t 34) (.ops [⟨(some 35), none, (.fieldAddr 2 (.t 5))⟩, ⟨(some 36), none, (.load none (.t 35))⟩, ⟨(some 37), none, (.bin .add (.t 36) (.c (.t (.int .i64 1))))⟩, ⟨(some 38), none, (.fieldAddr 2 (.t 5))⟩, ⟨none, none, (.store 1 (.t 38) (.t 37))⟩]) .skip)) (.seq (.ops [⟨(some 39), none, (.fieldAddr 4 (.t 7))⟩, ⟨(some 40), none, (.load none (.t 39))⟩, ⟨(some 41), none, (.bin .eql (.t 40) (.c (.t (.int .i64 4))))⟩]) (.cond (.t 41) (.ops [⟨(some 42), none, (.fieldAddr 3 (.t 5))⟩, ⟨(some 43), none, (.load none (.t 42))⟩, ⟨(some 44), none, (.bin .add (.t 43) (.c (.t (.int .i64 1))))⟩, ⟨(some 45), none, (.fieldAddr 3 (.t 5))⟩, ⟨none, none, (.store 1 (.t 45) (.t 44))⟩]) .skip)))))))))))) (.ops [⟨(some 61), none, (.bin .add (.t 13) (.c (.t (.int .i64 1))))⟩, ⟨(some 13), none, (.mv (.t 61))⟩]))))))) (.seq (.ops [⟨(some 62), none, (.load (some 5) (.t 5))⟩, ⟨none, none, (.store 5 (.t 4) (.t 62))⟩]) .ret))))
theorem k___impl_StewBook__count : comp Try.prog 63 (Try.f58.body.getD .skip) = some c___impl_StewBook__count := by kernel_rfl

def cLive (n : List UInt8) (c : StewCopy) : Bool := c.Service == n && !c.Ending
def cReady (n : List UInt8) (c : StewCopy) : Bool := c.Service == n && !c.Ending && c.State == 3
def cOld (n : List UInt8) (img : Int) (c : StewCopy) : Bool := c.Service == n && !c.Ending && !(c.Image == img)
def cFail (n : List UInt8) (c : StewCopy) : Bool := c.Service == n && !c.Ending && c.State == 4
def cEnd (n : List UInt8) (c : StewCopy) : Bool := c.Service == n && c.Ending
def cntI (p : StewCopy → Bool) (l : List StewCopy) : Int := ((l.countP p : Nat) : Int)
def cntT (n : List UInt8) (img : Int) (l : List StewCopy) : List T := [.int .i64 (cntI (cLive n) l), .int .i64 (cntI (cReady n) l), .int .i64 (cntI (cOld n img) l), .int .i64 (cntI (cFail n) l), .int .i64 (cntI (cEnd n) l)]
abbrev cntV (n : List UInt8) (img : Int) (l : List StewCopy) : List V := [.t (.int .i64 (cntI (cLive n) l)), .t (.int .i64 (cntI (cReady n) l)), .t (.int .i64 (cntI (cOld n img) l)), .t (.int .i64 (cntI (cFail n) l)), .t (.int .i64 (cntI (cEnd n) l))]
theorem cnt_step {p : StewCopy → Bool} {l : List StewCopy} {k : Nat} {x : StewCopy} (hx : l[k]? = some x) : cntI p (l.take (k + 1)) = cntI p (l.take k) + if p x = true then 1 else 0 := by
  rw [take_of hx, cntI, cntI, List.countP_append, List.countP_cons, List.countP_nil]
  split <;> simp
theorem cnt_le {p : StewCopy → Bool} {l : List StewCopy} {k : Nat} : 0 ≤ cntI p (l.take k) ∧ cntI p (l.take k) ≤ k := by
  have := Nat.le_trans (List.countP_le_length (p := p) (l := l.take k)) (List.length_take_le k l)
  unfold cntI
  omega
theorem cnt_wrap {p : StewCopy → Bool} {l : List StewCopy} {k : Nat} (h : k ≤ 1048576) : IntKind.i64.wrap (cntI p (l.take k) + 1) = cntI p (l.take k) + 1 := by
  have := cnt_le (p := p) (l := l) (k := k)
  exact IntWalk.i64_in _ (by omega)

theorem impl_count (b : StewBook) (hb : b.Ok) (s : StewService) (σ : Store) (id : Nat) (hid : σ[id]? = some (.box b.vs)) : ACalls Try.prog 58 [.ptr id 0, .pv s.ts] σ fun rr σ' => rr = .agg (cntV s.Name s.Image b.Copies) ∧ σ' = σ := by
  refine acalls_of Try.func58 (by decide +kernel) (code := Try.f58.body.getD .skip) (n := 63) (c := c___impl_StewBook__count) (rs := [(.cell 4 (some 5))]) rfl rfl k___impl_StewBook__count (by kernel_rfl) (by simp) (fun hσ => ?_)
  rw [StewBook.vs] at hid
  have hidA : ∀ τ : Store, (σ ++ τ)[id]? = some _ := fun τ => (Kp.app σ τ).box hid
  have hidl : id < σ.length := (List.getElem?_eq_some_iff.1 hid).1
  have y1 := hb.Copies.1
  simp -implicitDefEqProofs only [c___impl_StewBook__count, hid, hidA, StewService.ts, List.length_map, S0, S1, S2, S3, S4, S5, S6, S7, S8, S9, S10, S11, S12, S13, S14, S15, S16, opv, opvs, eget, env0, setD, lenStr, lenSl, isNilP, isNilS, putAt, if_true, if_false, reduceCtorEq, Nat.reduceLeDiff, Nat.reduceEqDiff, Nat.reduceSub, Nat.reduceMul, Nat.reduceAdd]
  refine loop_s [13, 1, 4, 5, 11, 12] [1, 4, 5, 11, 12] (fun k : Nat => [(13, .t (.int .i64 (k : Nat)))]) (fun k => σ ++ [.box [.t (.int .i64 0), .t (.int .i64 0), .t (.int .i64 0), .t (.int .i64 0), .t (.int .i64 0)], .box (cntV s.Name s.Image (b.Copies.take k))]) (fun k => k ≤ b.Copies.length) (fun k => b.Copies.length - k) 0 (σ.length + 2) (fun k => by simp) (Nat.le_add_right _ _) (Nat.zero_le _) (by simp [cntV, cntI]) rfl ?_
  rintro k hk
  simp -implicitDefEqProofs only [keep, List.length_map, S0, S1, S2, S3, S4, S5, S6, S7, S8, S9, S10, S11, S12, S13, S14, S15, S16, opv, opvs, eget, env0, setD, lenStr, lenSl, isNilP, isNilS, putAt, if_true, if_false, reduceCtorEq, Nat.reduceLeDiff, Nat.reduceEqDiff, Nat.reduceSub, Nat.reduceMul, Nat.reduceAdd]
  refine cond_split (fun h1 => ?_) (fun h1 => ?_)
  · obtain ⟨x, hx, hlt⟩ := at_of h1
    have more := i64_succ (show k < 4611686018427387904 by omega)
    have w1 := cnt_wrap (p := cLive s.Name) (l := b.Copies) (k := k) (by omega)
    have w2 := cnt_wrap (p := cReady s.Name) (l := b.Copies) (k := k) (by omega)
    have w3 := cnt_wrap (p := cOld s.Name s.Image) (l := b.Copies) (k := k) (by omega)
    have w4 := cnt_wrap (p := cFail s.Name) (l := b.Copies) (k := k) (by omega)
    have w5 := cnt_wrap (p := cEnd s.Name) (l := b.Copies) (k := k) (by omega)
    have t1 := cnt_step (p := cLive s.Name) hx
    have t2 := cnt_step (p := cReady s.Name) hx
    have t3 := cnt_step (p := cOld s.Name s.Image) hx
    have t4 := cnt_step (p := cFail s.Name) hx
    have t5 := cnt_step (p := cEnd s.Name) hx
    have stt : ∀ (a1 a2 a3 a4 a5 : Int) (τ : Store), cntI (cLive s.Name) (b.Copies.take (k + 1)) = a1 → cntI (cReady s.Name) (b.Copies.take (k + 1)) = a2 → cntI (cOld s.Name s.Image) (b.Copies.take (k + 1)) = a3 → cntI (cFail s.Name) (b.Copies.take (k + 1)) = a4 → cntI (cEnd s.Name) (b.Copies.take (k + 1)) = a5 →
        σ ++ ([.box [.t (.int .i64 0), .t (.int .i64 0), .t (.int .i64 0), .t (.int .i64 0), .t (.int .i64 0)], .box [.t (.int .i64 a1), .t (.int .i64 a2), .t (.int .i64 a3), .t (.int .i64 a4), .t (.int .i64 a5)]] ++ τ) = (σ ++ [.box [.t (.int .i64 0), .t (.int .i64 0), .t (.int .i64 0), .t (.int .i64 0), .t (.int .i64 0)], .box (cntV s.Name s.Image (b.Copies.take (k + 1)))]) ++ τ := by
      rintro a1 a2 a3 a4 a5 τ rfl rfl rfl rfl rfl
      simp
    simp -implicitDefEqProofs only [hx, nat_nn, Nat.zero_le, List.getElem?_map, Option.map_some, List.length_map, StewCopy.ts, more, S0, S1, S2, S3, S4, S5, S6, S7, S8, S9, S10, S11, S12, S13, S14, S15, S16, opv, opvs, eget, env0, setD, lenStr, lenSl, isNilP, isNilS, putAt, if_true, if_false, reduceCtorEq, Nat.reduceLeDiff, Nat.reduceEqDiff, Nat.reduceSub, Nat.reduceMul, Nat.reduceAdd]
    have hh : True := trivial
    repeat' (first
      | ((with_reducible refine cond_known (fun h => ?_) (fun h => ?_)) <;> (replace hh := And.intro h hh; clear h; simp -implicitDefEqProofs only [hh, cond_t, cond_f, hx, nat_nn, Nat.zero_le, List.getElem?_map, Option.map_some, List.length_map, StewCopy.ts, more, w1, w2, w3, w4, w5, S0, S1, S2, S3, S4, S5, S6, S7, S8, S9, S10, S11, S12, S13, S14, S15, S16, opv, opvs, eget, env0, setD, lenStr, lenSl, isNilP, isNilS, putAt, if_true, if_false, reduceCtorEq, Nat.reduceLeDiff, Nat.reduceEqDiff, Nat.reduceSub, Nat.reduceMul, Nat.reduceAdd]))
      | (refine lk_s (k + 1) (by simp) (Nat.le_add_right _ _) (stt _ _ _ _ _ [_] ?_ ?_ ?_ ?_ ?_) (by omega) (by omega) ?_ (by simp [ltE, keep, eget, V.lt] <;> omega) rfl))
    all_goals first
      | (rw [q_ltσ_app, ltσ_mono (Nat.le_add_right _ _) hσ]; rfl)
      | ((try simp only [Known] at hh); grind [cLive, cReady, cOld, cFail, cEnd])
  · have hkk := end_of h1 hk
    subst hkk
    rw [List.take_length]
    simp -implicitDefEqProofs only [S0, S1, S2, S3, S4, S5, S6, S7, S8, S9, S10, S11, S12, S13, S14, S15, S16, opv, opvs, eget, env0, setD, lenStr, lenSl, isNilP, isNilS, putAt, if_true, if_false, reduceCtorEq, Nat.reduceLeDiff, Nat.reduceEqDiff, Nat.reduceSub, Nat.reduceMul, Nat.reduceAdd]
    exact ret_same rfl hσ rfl ⟨rfl, rfl⟩

def cntO (b : StewBook) (name : List UInt8) : List V := match b.Services.find? (namedS name) with
  | some s => cntV name s.Image b.Copies
  | none => [.t (.int .i64 0), .t (.int .i64 0), .t (.int .i64 0), .t (.int .i64 0), .t (.int .i64 0)]
theorem spec_l13Count (b : StewBook) (hb : b.Ok) (name : List UInt8) (σ : Store) : ACalls Try.prog 57 [.agg b.vs, .t (.str name)] σ fun rr σ' => rr = .agg (cntO b name) ∧ σ' = σ := by
  refine acalls_of Try.func57 (by decide +kernel) (code := Try.f57.body.getD .skip) (n := 71) (c := c_spec_l13Count) (rs := [(.cell 4 (some 5))]) rfl rfl k_spec_l13Count (by kernel_rfl) (by simp) (fun hσ => ?_)
  have y1 := hb.Copies.1
  simp -implicitDefEqProofs only [c_spec_l13Count, StewBook.vs, List.length_map, S0, S1, S2, S3, S4, S5, S6, S7, S8, S9, S10, S11, S12, S13, S14, S15, S16, opv, opvs, eget, env0, setD, lenStr, lenSl, isNilP, isNilS, putAt, if_true, if_false, reduceCtorEq, Nat.reduceLeDiff, Nat.reduceEqDiff, Nat.reduceSub, Nat.reduceMul, Nat.reduceAdd]
  refine call_pure (spec_l12Service b hb name _) ?_
  rcases find_i (namedS name) b.Services 0 with ⟨g1, g2⟩ | ⟨i, s, g1, g2, g3⟩
  · have hco : cntO b name = [.t (.int .i64 0), .t (.int .i64 0), .t (.int .i64 0), .t (.int .i64 0), .t (.int .i64 0)] := by simp only [cntO, g2]
    have d1 : decide ((-1 : Int) ≥ 0) = false := by decide
    rw [g1]
    simp -implicitDefEqProofs only [S0, S1, S2, S3, S4, S5, S6, S7, S8, S9, S10, S11, S12, S13, S14, S15, S16, opv, opvs, eget, env0, setD, lenStr, lenSl, isNilP, isNilS, putAt, if_true, if_false, reduceCtorEq, Nat.reduceLeDiff, Nat.reduceEqDiff, Nat.reduceSub, Nat.reduceMul, Nat.reduceAdd]
    refine loop_p [7, 1, 2, 4, 5, 6] [1, 2, 4, 5, 6] (fun k : Nat => [(7, .t (.int .i64 (k : Nat)))]) (fun k => k = 0) (fun k => 0) 0 (by simp) rfl rfl ?_
    rintro k rfl
    simp -implicitDefEqProofs only [keep, List.length_map, d1, S0, S1, S2, S3, S4, S5, S6, S7, S8, S9, S10, S11, S12, S13, S14, S15, S16, opv, opvs, eget, env0, setD, lenStr, lenSl, isNilP, isNilS, putAt, if_true, if_false, reduceCtorEq, Nat.reduceLeDiff, Nat.reduceEqDiff, Nat.reduceSub, Nat.reduceMul, Nat.reduceAdd]
    refine cond_split (fun h => ?_) (fun h => ?_)
    · simp -implicitDefEqProofs only [h, d1, cond_t, cond_f, S0, S1, S2, S3, S4, S5, S6, S7, S8, S9, S10, S11, S12, S13, S14, S15, S16, opv, opvs, eget, env0, setD, lenStr, lenSl, isNilP, isNilS, putAt, if_true, if_false, reduceCtorEq, Nat.reduceLeDiff, Nat.reduceEqDiff, Nat.reduceSub, Nat.reduceMul, Nat.reduceAdd]
      exact ret_same rfl hσ rfl ⟨by rw [hco]; rfl, rfl⟩
    · simp -implicitDefEqProofs only [h, d1, cond_t, cond_f, S0, S1, S2, S3, S4, S5, S6, S7, S8, S9, S10, S11, S12, S13, S14, S15, S16, opv, opvs, eget, env0, setD, lenStr, lenSl, isNilP, isNilS, putAt, if_true, if_false, reduceCtorEq, Nat.reduceLeDiff, Nat.reduceEqDiff, Nat.reduceSub, Nat.reduceMul, Nat.reduceAdd]
      exact ret_same rfl hσ rfl ⟨by rw [hco]; rfl, rfl⟩
  · have hco : cntO b name = cntV name s.Image b.Copies := by simp only [cntO, g3]
    rw [g2, Nat.zero_add]
    have d1 : decide (((i : Nat) : Int) ≥ 0) = true := by simp
    simp -implicitDefEqProofs only [List.length_map, S0, S1, S2, S3, S4, S5, S6, S7, S8, S9, S10, S11, S12, S13, S14, S15, S16, opv, opvs, eget, env0, setD, lenStr, lenSl, isNilP, isNilS, putAt, if_true, if_false, reduceCtorEq, Nat.reduceLeDiff, Nat.reduceEqDiff, Nat.reduceSub, Nat.reduceMul, Nat.reduceAdd]
    refine loop_s [7, 1, 2, 4, 5, 6] [1, 2, 4, 5, 6] (fun k : Nat => [(7, .t (.int .i64 (k : Nat)))]) (fun k => σ ++ [.box b.vs, .box [.t (.int .i64 0), .t (.int .i64 0), .t (.int .i64 0), .t (.int .i64 0), .t (.int .i64 0)], .box (cntV name s.Image (b.Copies.take k))]) (fun k => k ≤ b.Copies.length) (fun k => b.Copies.length - k) 0 (σ.length + 3) (fun k => by simp) (Nat.le_add_right _ _) (Nat.zero_le _) (by simp [cntV, cntI]) rfl ?_
    rintro k hk
    simp -implicitDefEqProofs only [keep, StewBook.vs, List.length_map, S0, S1, S2, S3, S4, S5, S6, S7, S8, S9, S10, S11, S12, S13, S14, S15, S16, opv, opvs, eget, env0, setD, lenStr, lenSl, isNilP, isNilS, putAt, if_true, if_false, reduceCtorEq, Nat.reduceLeDiff, Nat.reduceEqDiff, Nat.reduceSub, Nat.reduceMul, Nat.reduceAdd]
    refine cond_split (fun h1 => ?_) (fun h1 => ?_)
    · obtain ⟨x, hx, hlt⟩ := at_of h1
      have more := i64_succ (show k < 4611686018427387904 by omega)
      have w1 := cnt_wrap (p := cLive name) (l := b.Copies) (k := k) (by omega)
      have w2 := cnt_wrap (p := cReady name) (l := b.Copies) (k := k) (by omega)
      have w3 := cnt_wrap (p := cOld name s.Image) (l := b.Copies) (k := k) (by omega)
      have w4 := cnt_wrap (p := cFail name) (l := b.Copies) (k := k) (by omega)
      have w5 := cnt_wrap (p := cEnd name) (l := b.Copies) (k := k) (by omega)
      have t1 := cnt_step (p := cLive name) hx
      have t2 := cnt_step (p := cReady name) hx
      have t3 := cnt_step (p := cOld name s.Image) hx
      have t4 := cnt_step (p := cFail name) hx
      have t5 := cnt_step (p := cEnd name) hx
      have stt : ∀ (a1 a2 a3 a4 a5 : Int) (τ : Store), cntI (cLive name) (b.Copies.take (k + 1)) = a1 → cntI (cReady name) (b.Copies.take (k + 1)) = a2 → cntI (cOld name s.Image) (b.Copies.take (k + 1)) = a3 → cntI (cFail name) (b.Copies.take (k + 1)) = a4 → cntI (cEnd name) (b.Copies.take (k + 1)) = a5 →
          σ ++ ([.box b.vs, .box [.t (.int .i64 0), .t (.int .i64 0), .t (.int .i64 0), .t (.int .i64 0), .t (.int .i64 0)], .box [.t (.int .i64 a1), .t (.int .i64 a2), .t (.int .i64 a3), .t (.int .i64 a4), .t (.int .i64 a5)]] ++ τ) = (σ ++ [.box b.vs, .box [.t (.int .i64 0), .t (.int .i64 0), .t (.int .i64 0), .t (.int .i64 0), .t (.int .i64 0)], .box (cntV name s.Image (b.Copies.take (k + 1)))]) ++ τ := by
        rintro a1 a2 a3 a4 a5 τ rfl rfl rfl rfl rfl
        simp
      have F : True := trivial
      simp -implicitDefEqProofs only [h1, d1, cond_t, cond_f, hx, g1, nat_nn, Nat.zero_le, List.getElem?_map, Option.map_some, List.length_map, StewCopy.ts, StewService.ts, more, S0, S1, S2, S3, S4, S5, S6, S7, S8, S9, S10, S11, S12, S13, S14, S15, S16, opv, opvs, eget, env0, setD, lenStr, lenSl, isNilP, isNilS, putAt, if_true, if_false, reduceCtorEq, Nat.reduceLeDiff, Nat.reduceEqDiff, Nat.reduceSub, Nat.reduceMul, Nat.reduceAdd]
      have hh : True := trivial
      repeat' (first
        | ((with_reducible refine cond_known (fun h => ?_) (fun h => ?_)) <;> (replace hh := And.intro h hh; clear h; simp -implicitDefEqProofs only [hh, cond_t, cond_f, d1, hx, g1, nat_nn, Nat.zero_le, List.getElem?_map, Option.map_some, List.length_map, StewCopy.ts, StewService.ts, more, w1, w2, w3, w4, w5, S0, S1, S2, S3, S4, S5, S6, S7, S8, S9, S10, S11, S12, S13, S14, S15, S16, opv, opvs, eget, env0, setD, lenStr, lenSl, isNilP, isNilS, putAt, if_true, if_false, reduceCtorEq, Nat.reduceLeDiff, Nat.reduceEqDiff, Nat.reduceSub, Nat.reduceMul, Nat.reduceAdd]))
        | (refine lk_s (k + 1) (by simp) (Nat.le_add_right _ _) (stt _ _ _ _ _ [_] ?_ ?_ ?_ ?_ ?_) (by omega) (by omega) ?_ (by simp [ltE, keep, eget, V.lt] <;> omega) rfl))
      all_goals first
        | (rw [q_ltσ_app, ltσ_mono (Nat.le_add_right _ _) hσ]; rfl)
        | ((try simp only [Known] at hh); grind [cLive, cReady, cOld, cFail, cEnd])
    · have hkk := end_of h1 hk
      subst hkk
      rw [List.take_length]
      simp -implicitDefEqProofs only [h1, d1, cond_t, cond_f, S0, S1, S2, S3, S4, S5, S6, S7, S8, S9, S10, S11, S12, S13, S14, S15, S16, opv, opvs, eget, env0, setD, lenStr, lenSl, isNilP, isNilS, putAt, if_true, if_false, reduceCtorEq, Nat.reduceLeDiff, Nat.reduceEqDiff, Nat.reduceSub, Nat.reduceMul, Nat.reduceAdd]
      exact ret_same rfl hσ rfl ⟨by rw [hco]; rfl, rfl⟩

def cx (f : StewService → List StewCopy → Int) (b : StewBook) (name : List UInt8) : Int := if stewValid b = true then (match b.Services.find? (namedS name) with
  | some s => f s b.Copies
  | none => 0) else 0
abbrev cntR (b : StewBook) (name : List UInt8) : V := .agg [.t (.int .i64 (cx (fun _ l => cntI (cLive name) l) b name)), .t (.int .i64 (cx (fun _ l => cntI (cReady name) l) b name)), .t (.int .i64 (cx (fun s l => cntI (cOld name s.Image) l) b name)), .t (.int .i64 (cx (fun _ l => cntI (cFail name) l) b name)), .t (.int .i64 (cx (fun _ l => cntI (cEnd name) l) b name))]
theorem cntR_no {b : StewBook} {name : List UInt8} (h : stewValid b = false) : cntR b name = .agg [.t (.int .i64 0), .t (.int .i64 0), .t (.int .i64 0), .t (.int .i64 0), .t (.int .i64 0)] := by simp [cntR, cx, h]
theorem cntR_yes {b : StewBook} {name : List UInt8} (h : stewValid b = true) : cntR b name = .agg (cntO b name) := by
  simp only [cntR, cx, h, if_true, cntO]
  cases b.Services.find? (namedS name) <;> rfl
def c_spec_StewCountOf : C := (.seq (.ops [⟨(some 2), none, (.box (.t 0))⟩, ⟨(some 4), none, (.new [(.t (.int .i64 0)), (.t (.int .i64 0)), (.t (.int .i64 0)), (.t (.int .i64 0)), (.t (.int .i64 0))])⟩]) (.seq (.seq (.ops [⟨(some 5), none, (.load (some 4) (.t 2))⟩, ⟨(some 6), none, (.call (.c (.fn (.func 11) [])) [(.t 5)])⟩, ⟨(some 7), none, (.un .not (.t 6))⟩]) (.cond (.t 7) (.seq (.ops [⟨(some 8), none, (.build [(.t (.int .i64 0)), (.t (.int .i64 0)), (.t (.int .i64 0)), (.t (.int .i64 0)), (.t (.int .i64 0))] [])⟩, ⟨none, none, (.store 5 (.t 4) (.t 8))⟩]) .ret) .skip)) (.seq (.ops [⟨(some 9), none, (.load (some 4) (.t 2))⟩, ⟨(some 10), none, (.mv (.t 1))⟩, ⟨(some 11), none, (.call (.c (.fn (.func 57) [])) [(.t 9), (.t 10)])⟩, ⟨none, none, (.store 5 (.t 4) (.t 11))⟩]) .ret)))
theorem k_spec_StewCountOf : comp Try.prog 12 (Try.f20.body.getD .skip) = some c_spec_StewCountOf := by kernel_rfl

theorem spec_StewCountOf (b : StewBook) (hb : b.Ok) (name : List UInt8) (hn : name.length ≤ 1048576) (σ : Store) : ACalls Try.prog 20 [.agg b.vs, .t (.str name)] σ fun rr σ' => rr = cntR b name ∧ σ' = σ := by
  refine acalls_of Try.func20 (by decide +kernel) (code := Try.f20.body.getD .skip) (n := 12) (c := c_spec_StewCountOf) (rs := [(.cell 4 (some 5))]) rfl rfl k_spec_StewCountOf (by kernel_rfl) (by simp) (fun hσ => ?_)
  simp -implicitDefEqProofs only [c_spec_StewCountOf, StewBook.vs, S0, S1, S2, S3, S4, S5, S6, S7, S8, S9, S10, S11, S12, S13, S14, S15, S16, opv, opvs, eget, env0, setD, lenStr, lenSl, isNilP, isNilS, putAt, if_true, if_false, reduceCtorEq, Nat.reduceLeDiff, Nat.reduceEqDiff, Nat.reduceSub, Nat.reduceMul, Nat.reduceAdd]
  refine call_pure (spec_StewValid b hb _) ?_
  simp -implicitDefEqProofs only [S0, S1, S2, S3, S4, S5, S6, S7, S8, S9, S10, S11, S12, S13, S14, S15, S16, opv, opvs, eget, env0, setD, lenStr, lenSl, isNilP, isNilS, putAt, if_true, if_false, reduceCtorEq, Nat.reduceLeDiff, Nat.reduceEqDiff, Nat.reduceSub, Nat.reduceMul, Nat.reduceAdd]
  refine cond_split (fun h => ?_) (fun h => ?_)
  · have hv : stewValid b = false := by simpa using h
    simp -implicitDefEqProofs only [S0, S1, S2, S3, S4, S5, S6, S7, S8, S9, S10, S11, S12, S13, S14, S15, S16, opv, opvs, eget, env0, setD, lenStr, lenSl, isNilP, isNilS, putAt, if_true, if_false, reduceCtorEq, Nat.reduceLeDiff, Nat.reduceEqDiff, Nat.reduceSub, Nat.reduceMul, Nat.reduceAdd]
    first | exact ret_same rfl hσ rfl ⟨by rw [cntR_no hv]; rfl, rfl⟩ | exact ret_same0 rfl ⟨by rw [cntR_no hv]; rfl, rfl⟩
  · have hv : stewValid b = true := by simpa using h
    simp -implicitDefEqProofs only [S0, S1, S2, S3, S4, S5, S6, S7, S8, S9, S10, S11, S12, S13, S14, S15, S16, opv, opvs, eget, env0, setD, lenStr, lenSl, isNilP, isNilS, putAt, if_true, if_false, reduceCtorEq, Nat.reduceLeDiff, Nat.reduceEqDiff, Nat.reduceSub, Nat.reduceMul, Nat.reduceAdd]
    refine call_pure (spec_l13Count b hb name _) ?_
    rw [show V.agg (cntO b name) = cntR b name from (cntR_yes hv).symm]
    simp -implicitDefEqProofs only [cntR, S0, S1, S2, S3, S4, S5, S6, S7, S8, S9, S10, S11, S12, S13, S14, S15, S16, opv, opvs, eget, env0, setD, lenStr, lenSl, isNilP, isNilS, putAt, if_true, if_false, reduceCtorEq, Nat.reduceLeDiff, Nat.reduceEqDiff, Nat.reduceSub, Nat.reduceMul, Nat.reduceAdd]
    first | exact ret_same rfl hσ rfl ⟨rfl, rfl⟩ | exact ret_same0 rfl ⟨rfl, rfl⟩
def c_impl_StewCountOf : C := (.seq (.ops [⟨(some 2), none, (.box (.t 0))⟩, ⟨(some 4), none, (.new [(.t (.int .i64 0)), (.t (.int .i64 0)), (.t (.int .i64 0)), (.t (.int .i64 0)), (.t (.int .i64 0))])⟩]) (.seq (.seq (.ops [⟨(some 6), none, (.load (some 4) (.t 2))⟩, ⟨(some 7), none, (.call (.c (.fn (.func 13) [])) [(.t 6)])⟩, ⟨(some 8), none, (.un .not (.t 7))⟩]) (.cond (.t 8) (.seq (.ops [⟨(some 9), none, (.build [(.t (.int .i64 0)), (.t (.int .i64 0)), (.t (.int .i64 0)), (.t (.int .i64 0)), (.t (.int .i64 0))] [])⟩, ⟨none, none, (.store 5 (.t 4) (.t 9))⟩]) .ret) .skip)) (.seq (.ops [⟨(some 10), none, (.mv (.t 1))⟩, ⟨(some 11), none, (.call (.c (.fn (.func 49) [])) [(.t 2), (.t 10)])⟩, ⟨(some 5), none, (.mv (.t 11))⟩]) (.seq (.seq (.ops [⟨(some 12), none, (.mv (.t 5))⟩, ⟨(some 13), none, (.eqP false (.t 12) (.c .nilp))⟩]) (.cond (.t 13) (.seq (.ops [⟨(some 14), none, (.build [(.t (.int .i64 0)), (.t (.int .i64 0)), (.t (.int .i64 0)), (.t (.int .i64 0)), (.t (.int .i64 0))] [])⟩, ⟨none, none, (.store 5 (.t 4) (.t 14))⟩]) .ret) .skip)) (.seq (.ops [⟨(some 15), none, (.mv (.t 5))⟩, ⟨(some 16), none, (.call (.c (.fn (.func 58) [])) [(.t 2), (.t 15)])⟩, ⟨none, none, (.store 5 (.t 4) (.t 16))⟩]) .ret)))))
theorem k_impl_StewCountOf : comp Try.prog 17 (Try.f21.body.getD .skip) = some c_impl_StewCountOf := by kernel_rfl

theorem impl_StewCountOf (b : StewBook) (hb : b.Ok) (name : List UInt8) (hn : name.length ≤ 1048576) (σ : Store) : ACalls Try.prog 21 [.agg b.vs, .t (.str name)] σ fun rr σ' => rr = cntR b name ∧ σ' = σ := by
  refine acalls_of Try.func21 (by decide +kernel) (code := Try.f21.body.getD .skip) (n := 17) (c := c_impl_StewCountOf) (rs := [(.cell 4 (some 5))]) rfl rfl k_impl_StewCountOf (by kernel_rfl) (by simp) (fun hσ => ?_)
  simp -implicitDefEqProofs only [c_impl_StewCountOf, StewBook.vs, S0, S1, S2, S3, S4, S5, S6, S7, S8, S9, S10, S11, S12, S13, S14, S15, S16, opv, opvs, eget, env0, setD, lenStr, lenSl, isNilP, isNilS, putAt, if_true, if_false, reduceCtorEq, Nat.reduceLeDiff, Nat.reduceEqDiff, Nat.reduceSub, Nat.reduceMul, Nat.reduceAdd]
  refine call_pure (impl_StewValid b hb _) ?_
  simp -implicitDefEqProofs only [S0, S1, S2, S3, S4, S5, S6, S7, S8, S9, S10, S11, S12, S13, S14, S15, S16, opv, opvs, eget, env0, setD, lenStr, lenSl, isNilP, isNilS, putAt, if_true, if_false, reduceCtorEq, Nat.reduceLeDiff, Nat.reduceEqDiff, Nat.reduceSub, Nat.reduceMul, Nat.reduceAdd]
  refine cond_split (fun h => ?_) (fun h => ?_)
  · have hv : stewValid b = false := by simpa using h
    simp -implicitDefEqProofs only [S0, S1, S2, S3, S4, S5, S6, S7, S8, S9, S10, S11, S12, S13, S14, S15, S16, opv, opvs, eget, env0, setD, lenStr, lenSl, isNilP, isNilS, putAt, if_true, if_false, reduceCtorEq, Nat.reduceLeDiff, Nat.reduceEqDiff, Nat.reduceSub, Nat.reduceMul, Nat.reduceAdd]
    first | exact ret_same rfl hσ rfl ⟨by rw [cntR_no hv]; rfl, rfl⟩ | exact ret_same0 rfl ⟨by rw [cntR_no hv]; rfl, rfl⟩
  · have hv : stewValid b = true := by simpa using h
    simp -implicitDefEqProofs only [S0, S1, S2, S3, S4, S5, S6, S7, S8, S9, S10, S11, S12, S13, S14, S15, S16, opv, opvs, eget, env0, setD, lenStr, lenSl, isNilP, isNilS, putAt, if_true, if_false, reduceCtorEq, Nat.reduceLeDiff, Nat.reduceEqDiff, Nat.reduceSub, Nat.reduceMul, Nat.reduceAdd]
    refine call_pure (__impl_StewBook__service b hb name σ.length _ (by simp)) ?_
    have hy := cntR_yes (name := name) hv
    rcases hfs : b.Services.find? (namedS name) with _ | s
    · have hco : cntO b name = [.t (.int .i64 0), .t (.int .i64 0), .t (.int .i64 0), .t (.int .i64 0), .t (.int .i64 0)] := by simp only [cntO, hfs]
      rw [hco] at hy
      simp -implicitDefEqProofs only [svV, cond_t, cond_f, S0, S1, S2, S3, S4, S5, S6, S7, S8, S9, S10, S11, S12, S13, S14, S15, S16, opv, opvs, eget, env0, setD, lenStr, lenSl, isNilP, isNilS, putAt, if_true, if_false, reduceCtorEq, Nat.reduceLeDiff, Nat.reduceEqDiff, Nat.reduceSub, Nat.reduceMul, Nat.reduceAdd]
      first | exact ret_same rfl hσ rfl ⟨by rw [hy]; rfl, rfl⟩ | exact ret_same0 rfl ⟨by rw [hy]; rfl, rfl⟩
    · have hnm : s.Name = name := by
        have := List.find?_some hfs
        simpa [namedS] using this
      have hco : cntO b name = cntV name s.Image b.Copies := by simp only [cntO, hfs]
      rw [hco] at hy
      simp -implicitDefEqProofs only [svV, cond_t, cond_f, S0, S1, S2, S3, S4, S5, S6, S7, S8, S9, S10, S11, S12, S13, S14, S15, S16, opv, opvs, eget, env0, setD, lenStr, lenSl, isNilP, isNilS, putAt, if_true, if_false, reduceCtorEq, Nat.reduceLeDiff, Nat.reduceEqDiff, Nat.reduceSub, Nat.reduceMul, Nat.reduceAdd]
      refine call_pure (impl_count b hb s _ σ.length (by simp)) ?_
      rw [hnm, ← hy]
      simp -implicitDefEqProofs only [cntR, S0, S1, S2, S3, S4, S5, S6, S7, S8, S9, S10, S11, S12, S13, S14, S15, S16, opv, opvs, eget, env0, setD, lenStr, lenSl, isNilP, isNilS, putAt, if_true, if_false, reduceCtorEq, Nat.reduceLeDiff, Nat.reduceEqDiff, Nat.reduceSub, Nat.reduceMul, Nat.reduceAdd]
      first | exact ret_same rfl hσ rfl ⟨rfl, rfl⟩ | exact ret_same0 rfl ⟨rfl, rfl⟩

end Go.Proofs.Ytabakekeicbpbaa.W

end


section
open Go Go.Ab
set_option maxHeartbeats 4000000
namespace Go.Proofs.Ytabakekeicbpbaa.W
def c_laws_eqStewCount : C := (.seq (.ops [⟨(some 2), none, (.box (.t 0))⟩, ⟨(some 3), none, (.box (.t 1))⟩, ⟨(some 4), none, (.mv (.c (.t (.bool false))))⟩]) (.seq (.seq (.ops [⟨(some 5), none, (.fieldAddr 0 (.t 2))⟩, ⟨(some 6), none, (.load none (.t 5))⟩, ⟨(some 7), none, (.fieldAddr 0 (.t 3))⟩, ⟨(some 8), none, (.load none (.t 7))⟩, ⟨(some 9), none, (.bin .neq (.t 6) (.t 8))⟩]) (.cond (.t 9) (.seq (.ops [⟨(some 4), none, (.mv (.c (.t (.bool false))))⟩]) .ret) .skip)) (.seq (.seq (.ops [⟨(some 10), none, (.fieldAddr 1 (.t 2))⟩, ⟨(some 11), none, (.load none (.t 10))⟩, ⟨(some 12), none, (.fieldAddr 1 (.t 3))⟩, ⟨(some 13), none, (.load none (.t 12))⟩, ⟨(some 14), none, (.bin .neq (.t 11) (.t 13))⟩]) (.cond (.t 14) (.seq (.ops [⟨(some 4), none, (.mv (.c (.t (.bool false))))⟩]) .ret) .skip)) (.seq (.seq (.ops [⟨(some 15), none, (.fieldAddr 2 (.t 2))⟩, ⟨(some 16), none, (.load none (.t 15))⟩, ⟨(some 17), none, (.fieldAddr 2 (.t 3))⟩, ⟨(some 18), none, (.load none (.t 17))⟩, ⟨(some 19), none, (.bin .neq (.t 16) (.t 18))⟩]) (.cond (.t 19) (.seq (.ops [⟨(some 4), none, (.mv (.c (.t (.bool false))))⟩]) .ret) .skip)) (.seq (.seq (.ops [⟨(some 20), none, (.fieldAddr 3 (.t 2))⟩, ⟨(some 21), none, (.load none (.t 20))⟩, ⟨(some 22), none, (.fieldAddr 3 (.t 3))⟩, ⟨(some 23), none, (.load none (.t 22))⟩, ⟨(some 24), none, (.bin .neq (.t 21) (.t 23))⟩]) (.cond (.t 24) (.seq (.ops [⟨(some 4), none, (.mv (.c (.t (.bool false))))⟩]) .ret) .skip)) (.seq (.seq (.ops [⟨(some 25), none, (.fieldAddr 4 (.t 2))⟩, ⟨(some 26), none, (.load none (.t 25))⟩, ⟨(some 27), none, (.fieldAddr 4 (.t 3))⟩, ⟨(some 28), none, (.load none (.t 27))⟩, ⟨(some 29), none, (.bin .neq (.t 26) (.t 28))⟩]) (.cond (.t 29) (.seq (.ops [⟨(some 4), none, (.mv (.c (.t (.bool false))))⟩]) .ret) .skip)) (.seq (.ops [⟨(some 4), none, (.mv (.c (.t (.bool true))))⟩]) .ret)))))))
theorem k_laws_eqStewCount : comp Try.prog 30 (Try.f22.body.getD .skip) = some c_laws_eqStewCount := by kernel_rfl

theorem eqvStewCount (a b c d e : Int) (σ : Store) : ACalls Try.prog 22 [.agg [.t (.int .i64 a), .t (.int .i64 b), .t (.int .i64 c), .t (.int .i64 d), .t (.int .i64 e)], .agg [.t (.int .i64 a), .t (.int .i64 b), .t (.int .i64 c), .t (.int .i64 d), .t (.int .i64 e)]] σ fun r σ' => r = .t (.bool true) ∧ σ' = σ := by
  refine acalls_of Try.func22 (by decide +kernel) (code := Try.f22.body.getD .skip) (n := 30) (c := c_laws_eqStewCount) (rs := [(.tmp 4)]) rfl rfl k_laws_eqStewCount (by kernel_rfl) (by simp) (fun hσ => ?_)
  simp -implicitDefEqProofs only [c_laws_eqStewCount, ne_self, beq_self_eq_true, S0, S1, S2, S3, S4, S5, S6, S7, S8, S9, S10, S11, S12, S13, S14, S15, S16, opv, opvs, eget, env0, setD, lenStr, lenSl, isNilP, isNilS, putAt, if_true, if_false, reduceCtorEq, Nat.reduceLeDiff, Nat.reduceEqDiff, Nat.reduceSub, Nat.reduceMul, Nat.reduceAdd]
  first | exact ret_same rfl hσ rfl ⟨rfl, rfl⟩ | exact ret_same0 rfl ⟨rfl, rfl⟩
end Go.Proofs.Ytabakekeicbpbaa.W

end
