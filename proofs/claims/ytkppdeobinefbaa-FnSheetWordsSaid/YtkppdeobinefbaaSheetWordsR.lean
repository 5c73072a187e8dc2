/- Words of a line, by the reference. Conditions: none. -/
/- Words of a line, by the program. Conditions: none. -/
/- SheetWords's result: its shape and size. Conditions: none. -/
import Derived.Test.YtkppdeobinefbaaSheetQuoted
import Derived.Test.YtkppdeobinefbaaTypesSheet
set_option linter.unusedSimpArgs false
set_option linter.unusedVariables false
set_option linter.defProp false

section
open Go Go.Ab
set_option maxHeartbeats 2000000
namespace Go.Proofs.Ytkppdeobinefbaa.W
def cutW (line : List UInt8) : List (List UInt8) := (cutF line []).getD []
def cutBad (line : List UInt8) : Bool := (cutF line []).isNone
structure Gw where
  i : Nat
  ws : List (List UInt8)
  v : V
  s : Store
  is : List Nat
theorem tStr_flat (l : List (List UInt8)) : flat (l.map tStr) := by
  intro r hr t ht
  obtain ⟨b, _, rfl⟩ := List.mem_map.1 hr
  simp only [tStr, List.mem_singleton] at ht
  subst ht
  rfl
theorem OFl.len {s0 s : Store} {n : Nat} {rows : List (List T)} {v : V} {is : List Nat} (h : OFl s0 n rows v s is) (hf : flat rows) : lenSl v = some rows.length := (h.own.fl hf).len
/-- The box that holds the list turns. -/
theorem OFl.rebase {A s : Store} {o o' : Go.Ab.Obj} {n p : Nat} {rows : List (List T)} {v : V} {is : List Nat} (h : OFl (A ++ [o]) n rows v s is) (hp : p = A.length) : OFl (A ++ [o']) n rows v (s.set p o') is := by
  subst hp
  have hle := h.le
  simp only [List.length_append, List.length_cons, List.length_nil] at hle
  refine ⟨by simp; omega, fun j hj => ?_, set_own h.own (fun hm => ?_), ?_⟩
  · simp only [List.length_append, List.length_cons, List.length_nil] at hj
    by_cases e : j = A.length
    · subst e
      rw [List.getElem?_set_self (by omega)]
      simp
    · rw [List.getElem?_set_ne (fun h => e h.symm), h.kp j (by simp; omega), List.getElem?_append_left (by omega), List.getElem?_append_left (by omega)]
  · have := h.wi.2 _ hm
    simp at this
    omega
  · have := h.wi
    simp only [List.length_append, List.length_cons, List.length_nil, List.length_set] at this ⊢
    exact this
theorem OFl.retL {σ B s : Store} {rows : List (List T)} {v : V} {is : List Nat} (h : OFl (σ ++ B) 1 rows v s is) {p : Nat} {o : Go.Ab.Obj} {bad : Bool} (h1 : σ.length ≤ p) (h2 : p < (σ ++ B).length) : ToLR [.lst 1 rows, .bool bad] σ (.agg [v, .t (.bool bad)]) (s.set p o) := by
  obtain ⟨τ, is0, hs, _, _⟩ := h.toR
  have hk : Kp σ s := by rw [hs]; exact Kp.app _ _
  have hl : σ.length ≤ (s.set p o).length := by rw [hs]; simp
  refine ⟨_, _, is ++ [], rfl, kp_split (hk.set h1) hl, OwnL.lst (set_own h.own fun hm => ?_) (OwnL.bool OwnL.nil0), ?_⟩
  · have := h.wi.2 _ hm
    omega
  · rw [List.append_nil]
    refine h.wi.mono (by simp) (by simp)
theorem bad_retL {σ B s : Store} {rows : List (List T)} {v : V} {is : List Nat} (h : OFl (σ ++ B) 1 rows v s is) {p : Nat} {o : Go.Ab.Obj} (h1 : σ.length ≤ p) : ToLR [.lst 1 [], .bool true] σ (.agg [.nils, .t (.bool true)]) (s.set p o) := by
  obtain ⟨τ, is0, hs, _, _⟩ := h.toR
  have hk : Kp σ s := by rw [hs]; exact Kp.app _ _
  have hl : σ.length ≤ (s.set p o).length := by rw [hs]; simp
  exact ⟨_, _, [] ++ [], rfl, kp_split (hk.set h1) hl, OwnL.lst (own_empty (by omega)) (OwnL.bool OwnL.nil0), Wi.nil⟩
theorem tw_of {p : UInt8 → Bool} : ∀ {l : List UInt8} {k : Nat}, (l.take k).all p = true → (∀ c r, l.drop k = c :: r → p c = false) → l.takeWhile p = l.take k
  | [], k, _, _ => by simp
  | a :: l, 0, _, h => by rw [List.takeWhile_cons, h a l rfl]; rfl
  | a :: l, k + 1, hw, h => by
    simp only [List.take_succ_cons, List.all_cons, Bool.and_eq_true] at hw
    rw [List.takeWhile_cons, if_pos hw.1, List.take_succ_cons, tw_of hw.2 (fun c r e => h c r (by simpa using e))]
/-- One word more. -/
theorem cut_word {c : UInt8} {r w : List UInt8} {n : Nat} {ws : List (List UInt8)} (h1 : ((c.toNat : Int) == 32) = false) (h2 : ((c.toNat : Int) == 35) = false) (h : wordAt (c :: r) = some (w, n)) :
    cutF (c :: r) ws = if (endB ((c :: r).drop n) && decide (w.length ≤ 200) && decide (ws.length < 8)) = true then cutF ((c :: r).drop n) (ws ++ [w]) else none := by
  rw [cutF.eq_def]
  simp only [h1, h2, h, Bool.false_eq_true, if_false]
  have := (wordAt_ge h).1
  rw [show (c :: r).drop n = r.drop (n - 1) by rw [show n = (n - 1) + 1 by omega, List.drop_succ_cons]; rfl]
theorem cut_none {c : UInt8} {r : List UInt8} {ws : List (List UInt8)} (h1 : ((c.toNat : Int) == 32) = false) (h2 : ((c.toNat : Int) == 35) = false) (h : wordAt (c :: r) = none) : cutF (c :: r) ws = none := by
  rw [cutF.eq_def]
  simp only [h1, h2, h, Bool.false_eq_true, if_false]
theorem cut_sp {c : UInt8} {r : List UInt8} {ws : List (List UInt8)} (h1 : ((c.toNat : Int) == 32) = true) : cutF (c :: r) ws = cutF r ws := by
  rw [cutF.eq_def]
  simp only [h1, if_true]
theorem cut_ha {c : UInt8} {r : List UInt8} {ws : List (List UInt8)} (h1 : ((c.toNat : Int) == 32) = false) (h2 : ((c.toNat : Int) == 35) = true) : cutF (c :: r) ws = some ws := by
  rw [cutF.eq_def]
  simp only [h1, h2, Bool.false_eq_true, if_false, if_true]
theorem cut_nil {ws : List (List UInt8)} : cutF [] ws = some ws := by rw [cutF.eq_def]
theorem word_q {c : UInt8} {r t : List UInt8} {k : Nat} (h : ((c.toNat : Int) == 34) = true) (hq : qF r [] 0 = some (t, k)) : wordAt (c :: r) = some (t, k + 1) := by
  simp only [wordAt, h, if_true, hq]
theorem word_q0 {c : UInt8} {r : List UInt8} (h : ((c.toNat : Int) == 34) = true) (hq : qF r [] 0 = none) : wordAt (c :: r) = none := by
  simp only [wordAt, h, if_true, hq]
theorem word_b {c : UInt8} {r w : List UInt8} (h : ((c.toNat : Int) == 34) = false) (hw : (c :: r).takeWhile bareB = w) : wordAt (c :: r) = if w.length = 0 then none else some (w, w.length) := by
  subst hw
  simp only [wordAt, h, Bool.false_eq_true, if_false]
theorem endB_at {l : List UInt8} {n : Nat} {y : UInt8} (h : l[n]? = some y) : endB (l.drop n) = ((y.toNat : Int) == 32 || (y.toNat : Int) == 35) := by
  rw [drop_of h]
  rfl
theorem endB_nil : endB [] = true := rfl

def c_spec_SheetWords : C := (.seq (.ops [⟨(some 2), none, (.new [.nils, (.t (.bool false))])⟩]) (.seq (.ops [⟨(some 10), none, (.build [.nils, (.t (.bool false))] [⟨1, ⟨1, (.c (.t (.bool true)))⟩⟩])⟩, ⟨(some 3), none, (.new [.nils, (.t (.bool false))])⟩, ⟨none, none, (.store 2 (.t 3) (.t 10))⟩]) (.seq (.ops [⟨(some 11), none, (.build [.nils, (.t (.bool false))] [])⟩, ⟨(some 4), none, (.new [.nils, (.t (.bool false))])⟩, ⟨none, none, (.store 2 (.t 4) (.t 11))⟩]) (.seq (.seq (.ops [⟨(some 5), none, (.mv (.c (.t (.int .i64 0))))⟩]) (.block 0 (.loop (.seq (.seq (.ops [⟨(some 12), none, (.mv (.t 5))⟩, ⟨(some 13), none, (.mv (.t 0))⟩, ⟨(some 14), none, (.len true (.t 13))⟩, ⟨(some 15), none, (.bin .lss (.t 12) (.t 14))⟩]) (.cond (.t 15) .skip (.exit 0))) (.block 1 (.seq (.ops [⟨(some 6), none, (.mv (.c (.t (.str []))))⟩]) (.seq (.ops [⟨(some 16), none, (.mv (.t 5))⟩, ⟨(some 7), none, (.mv (.t 16))⟩]) (.seq (.block 2 (.seq (.ops [⟨(some 38), none, (.mv (.t 0))⟩, ⟨(some 39), none, (.mv (.t 5))⟩, ⟨(some 40), none, (.index (.t 38) (.t 39))⟩, ⟨(some 41), none, (.bin .eql (.t 40) (.c (.t (.int .u8 32))))⟩, ⟨(some 37), none, (.mv (.t 41))⟩]) (.cond (.t 37) (.seq (.ops [⟨(some 42), none, (.mv (.t 5))⟩, ⟨(some 43), none, (.bin .add (.t 42) (.c (.t (.int .i64 1))))⟩, ⟨(some 5), none, (.mv (.t 43))⟩]) (.exit 1)) (.seq (.ops [⟨(some 45), none, (.mv (.t 0))⟩, ⟨(some 46), none, (.mv (.t 5))⟩, ⟨(some 47), none, (.index (.t 45) (.t 46))⟩, ⟨(some 48), none, (.bin .eql (.t 47) (.c (.t (.int .u8 35))))⟩, ⟨(some 44), none, (.mv (.t 48))⟩]) (.cond (.t 44) (.seq (.ops [⟨(some 49), none, (.load (some 2) (.t 4))⟩, ⟨none, none, (.store 2 (.t 2) (.t 49))⟩]) .ret) (.seq (.ops [⟨(some 51), none, (.mv (.t 0))⟩, ⟨(some 52), none, (.mv (.t 5))⟩, ⟨(some 53), none, (.index (.t 51) (.t 52))⟩, ⟨(some 54), none, (.bin .eql (.t 53) (.c (.t (.int .u8 34))))⟩, ⟨(some 50), none, (.mv (.t 54))⟩]) (.cond (.t 50) (.seq (.ops [⟨(some 56), none, (.mv (.t 0))⟩, ⟨(some 57), none, (.mv (.t 5))⟩, ⟨(some 58), none, (.bin .add (.t 57) (.c (.t (.int .i64 1))))⟩, ⟨(some 59), none, (.sliceStr (.t 56) (some (.t 58)) none)⟩, ⟨(some 60), none, (.call (.c (.fn (.func 19) [])) [(.t 59)])⟩, ⟨(some 55), none, (.mv (.t 60))⟩, ⟨(some 61), none, (.extract (.t 55) 0)⟩, ⟨(some 62), none, (.extract (.t 55) 1)⟩, ⟨(some 8), none, (.mv (.t 61))⟩, ⟨(some 9), none, (.mv (.t 62))⟩]) (.seq (.seq (.ops [⟨(some 63), none, (.mv (.t 9))⟩, ⟨(some 64), none, (.bin .eql (.t 63) (.c (.t (.int .i64 0))))⟩]) (.cond (.t 64) (.seq (.ops [⟨(some 65), none, (.load (some 2) (.t 3))⟩, ⟨none, none, (.store 2 (.t 2) (.t 65))⟩]) .ret) .skip)) (.seq (.ops [⟨(some 66), none, (.mv (.t 8))⟩, ⟨(some 6), none, (.mv (.t 66))⟩]) (.ops [⟨(some 67), none, (.mv (.t 5))⟩, ⟨(some 68), none, (.bin .add (.t 67) (.c (.t (.int .i64 1))))⟩, ⟨(some 69), none, (.mv (.t 9))⟩, ⟨(some 70), none, (.bin .add (.t 68) (.t 69))⟩, ⟨(some 7), none, (.mv (.t 70))⟩])))) (.seq (.block 3 (.loop (.seq (.seq (.ops [⟨(some 17), none, (.mv (.t 7))⟩, ⟨(some 18), none, (.mv (.t 0))⟩, ⟨(some 19), none, (.len true (.t 18))⟩, ⟨(some 20), none, (.bin .lss (.t 17) (.t 19))⟩, ⟨(some 21), none, (.mv (.t 20))⟩, ⟨(some 22), (some ⟨21, true⟩), (.mv (.t 0))⟩, ⟨(some 23), (some ⟨21, true⟩), (.mv (.t 7))⟩, ⟨(some 24), (some ⟨21, true⟩), (.index (.t 22) (.t 23))⟩, ⟨(some 25), (some ⟨21, true⟩), (.call (.c (.fn (.func 16) [])) [(.t 24)])⟩, ⟨(some 26), none, (.pick (.t 21) (.t 25) (.c (.t (.bool false))))⟩]) (.cond (.t 26) .skip (.exit 3))) (.block 4 (.ops [⟨(some 27), none, (.mv (.t 7))⟩, ⟨(some 28), none, (.bin .add (.t 27) (.c (.t (.int .i64 1))))⟩, ⟨(some 7), none, (.mv (.t 28))⟩]))))) (.seq (.ops [⟨(some 29), none, (.mv (.t 0))⟩, ⟨(some 30), none, (.mv (.t 5))⟩, ⟨(some 31), none, (.mv (.t 7))⟩, ⟨(some 32), none, (.sliceStr (.t 29) (some (.t 30)) (some (.t 31)))⟩, ⟨(some 6), none, (.mv (.t 32))⟩]) (.seq (.ops [⟨(some 33), none, (.mv (.t 7))⟩, ⟨(some 34), none, (.mv (.t 5))⟩, ⟨(some 35), none, (.bin .eql (.t 33) (.t 34))⟩]) (.cond (.t 35) (.seq (.ops [⟨(some 36), none, (.load (some 2) (.t 3))⟩, ⟨none, none, (.store 2 (.t 2) (.t 36))⟩]) .ret) .skip))))))))))) (.seq (.seq (.ops [⟨(some 71), none, (.mv (.t 7))⟩, ⟨(some 72), none, (.mv (.t 0))⟩, ⟨(some 73), none, (.len true (.t 72))⟩, ⟨(some 74), none, (.bin .lss (.t 71) (.t 73))⟩, ⟨(some 75), none, (.mv (.t 74))⟩, ⟨(some 76), (some ⟨75, true⟩), (.mv (.t 0))⟩, ⟨(some 77), (some ⟨75, true⟩), (.mv (.t 7))⟩, ⟨(some 78), (some ⟨75, true⟩), (.index (.t 76) (.t 77))⟩, ⟨(some 79), (some ⟨75, true⟩), (.bin .neq (.t 78) (.c (.t (.int .u8 32))))⟩, ⟨(some 80), none, (.pick (.t 75) (.t 79) (.c (.t (.bool false))))⟩, ⟨(some 81), none, (.mv (.t 80))⟩, ⟨(some 82), (some ⟨81, true⟩), (.mv (.t 0))⟩, ⟨(some 83), (some ⟨81, true⟩), (.mv (.t 7))⟩, ⟨(some 84), (some ⟨81, true⟩), (.index (.t 82) (.t 83))⟩, ⟨(some 85), (some ⟨81, true⟩), (.bin .neq (.t 84) (.c (.t (.int .u8 35))))⟩, ⟨(some 86), none, (.pick (.t 81) (.t 85) (.c (.t (.bool false))))⟩, ⟨(some 87), none, (.mv (.t 86))⟩, ⟨(some 88), (some ⟨87, false⟩), (.mv (.t 6))⟩, ⟨(some 89), (some ⟨87, false⟩), (.len true (.t 88))⟩, ⟨(some 90), (some ⟨87, false⟩), (.bin .gtr (.t 89) (.c (.t (.int .i64 200))))⟩, ⟨(some 91), none, (.pick (.t 87) (.c (.t (.bool true))) (.t 90))⟩, ⟨(some 92), none, (.mv (.t 91))⟩, ⟨(some 93), (some ⟨92, false⟩), (.fieldAddr 0 (.t 4))⟩, ⟨(some 94), (some ⟨92, false⟩), (.load none (.t 93))⟩, ⟨(some 95), (some ⟨92, false⟩), (.len false (.t 94))⟩, ⟨(some 96), (some ⟨92, false⟩), (.bin .geq (.t 95) (.c (.t (.int .i64 8))))⟩, ⟨(some 97), none, (.pick (.t 92) (.c (.t (.bool true))) (.t 96))⟩]) (.cond (.t 97) (.seq (.ops [⟨(some 98), none, (.load (some 2) (.t 3))⟩, ⟨none, none, (.store 2 (.t 2) (.t 98))⟩]) .ret) .skip)) (.seq (.ops [⟨(some 99), none, (.fieldAddr 0 (.t 4))⟩, ⟨(some 100), none, (.load none (.t 99))⟩, ⟨(some 101), none, (.mv (.t 6))⟩, ⟨(some 102), none, (.lit none 1 1 [(.t (.str []))] [⟨0, (.t 101)⟩])⟩, ⟨(some 103), none, (.append 1 16 (.t 100) (.t 102))⟩, ⟨(some 104), none, (.fieldAddr 0 (.t 4))⟩, ⟨none, none, (.store 1 (.t 104) (.t 103))⟩]) (.ops [⟨(some 105), none, (.mv (.t 7))⟩, ⟨(some 5), none, (.mv (.t 105))⟩]))))))))))) (.seq (.ops [⟨(some 106), none, (.load (some 2) (.t 4))⟩, ⟨none, none, (.store 2 (.t 2) (.t 106))⟩]) .ret)))))
theorem k_spec_SheetWords : comp Try.prog 107 (Try.f8.body.getD .skip) = some c_spec_SheetWords := by kernel_rfl

set_option maxHeartbeats 8000000 in
theorem spec_SheetWords0 (line : List UInt8) (hs : line.length ≤ 1048576) (σ : Store) : ACalls Try.prog 8 [.t (.str line)] σ (ToLR [tStrs (cutW line), .bool (cutBad line)] σ) := by
  refine acalls_of Try.func8 (by decide +kernel) (code := Try.f8.body.getD .skip) (n := 107) (c := c_spec_SheetWords) (rs := [(.cell 2 (some 2))]) rfl rfl k_spec_SheetWords (by kernel_rfl) (by simp) (fun hσ => ?_)
  have c1 : 0 < 1 := by omega
  simp -implicitDefEqProofs only [c_spec_SheetWords, S0, S1, S2, S3, S4, S5, S6, S7, S8, S9, S10, S11, S12, S13, S14, S15, S16, S17, opv, opvs, eget, env0, setD, lenStr, lenSl, isNilP, isNilS, putAt, if_true, if_false, reduceCtorEq, Nat.reduceLeDiff, Nat.reduceEqDiff, Nat.reduceSub, Nat.reduceMul, Nat.reduceAdd]
  refine loop_g [5, 0, 2, 3, 4] [0, 2, 3, 4] (fun g : Gw => [(5, .t (.int .i64 (g.i : Nat)))]) (fun g => g.s) (fun g => g.i ≤ line.length ∧ cutF (line.drop g.i) g.ws = cutF line [] ∧ OFl (σ ++ [.box [.nils, .t (.bool false)], .box [.nils, .t (.bool true)], .box [g.v, .t (.bool false)]]) 1 (g.ws.map tStr) g.v g.s g.is ∧ g.ws.length ≤ 8) (fun g => line.length - g.i) ⟨0, [], .nils, σ ++ [.box [.nils, .t (.bool false)], .box [.nils, .t (.bool true)], .box [.nils, .t (.bool false)]], []⟩ (by simp) ⟨Nat.zero_le _, rfl, OFl.nils (by omega), Nat.zero_le _⟩ rfl rfl ?_
  rintro ⟨i, ws, v, s, is⟩ ⟨hk, hcut, hof, hws⟩
  simp only at hk hcut hof hws
  have hbl : σ.length ≤ s.length := by have := hof.le; simp at this; omega
  have id1 : s[σ.length]? = some (.box [.nils, .t (.bool false)]) := hof.box (by simp)
  have id2 : s[σ.length + 1]? = some (.box [.nils, .t (.bool true)]) := hof.box (by simp)
  have id3 : s[σ.length + 2]? = some (.box [v, .t (.bool false)]) := hof.box (by simp)
  have s1 : ∀ o, (s.set σ.length o)[σ.length]? = some o := fun o => List.getElem?_set_self (List.getElem?_eq_some_iff.1 id1).1
  have hone := hof.one
  have hlv : lenSl v = some ws.length := by rw [OFl.len hof (tStr_flat _), List.length_map]
  simp only [lenSl] at hlv
  simp -implicitDefEqProofs only [keep, S0, S1, S2, S3, S4, S5, S6, S7, S8, S9, S10, S11, S12, S13, S14, S15, S16, S17, opv, opvs, eget, env0, setD, lenStr, lenSl, isNilP, isNilS, putAt, if_true, if_false, reduceCtorEq, Nat.reduceLeDiff, Nat.reduceEqDiff, Nat.reduceSub, Nat.reduceMul, Nat.reduceAdd]
  refine cond_split (fun h1 => ?_) (fun h1 => ?_)
  · obtain ⟨x, hx, hlt⟩ := at_of h1
    have more := i64_succ (show i < 4611686018427387904 by omega)
    have hd := drop_of hx
    clear h1
    simp -implicitDefEqProofs only [hx, nat_nn, Nat.zero_le, S0, S1, S2, S3, S4, S5, S6, S7, S8, S9, S10, S11, S12, S13, S14, S15, S16, S17, opv, opvs, eget, env0, setD, lenStr, lenSl, isNilP, isNilS, putAt, if_true, if_false, reduceCtorEq, Nat.reduceLeDiff, Nat.reduceEqDiff, Nat.reduceSub, Nat.reduceMul, Nat.reduceAdd]
    refine cond_split (fun x32 => ?_) (fun x32 => ?_)
    · rw [hd, cut_sp x32] at hcut
      simp -implicitDefEqProofs only [more, S0, S1, S2, S3, S4, S5, S6, S7, S8, S9, S10, S11, S12, S13, S14, S15, S16, S17, opv, opvs, eget, env0, setD, lenStr, lenSl, isNilP, isNilS, putAt, if_true, if_false, reduceCtorEq, Nat.reduceLeDiff, Nat.reduceEqDiff, Nat.reduceSub, Nat.reduceMul, Nat.reduceAdd]
      exact lk_g ⟨i + 1, ws, v, s, is⟩ (by simp only; omega) ⟨by simp only; omega, hcut, hof, hws⟩ hbl rfl rfl
    simp -implicitDefEqProofs only [hx, nat_nn, Nat.zero_le, S0, S1, S2, S3, S4, S5, S6, S7, S8, S9, S10, S11, S12, S13, S14, S15, S16, S17, opv, opvs, eget, env0, setD, lenStr, lenSl, isNilP, isNilS, putAt, if_true, if_false, reduceCtorEq, Nat.reduceLeDiff, Nat.reduceEqDiff, Nat.reduceSub, Nat.reduceMul, Nat.reduceAdd]
    refine cond_split (fun x35 => ?_) (fun x35 => ?_)
    · rw [hd, cut_ha x32 x35] at hcut
      simp -implicitDefEqProofs only [id1, id2, id3, s1, hone, hlv, nat_nn, Nat.zero_le, c1, S0, S1, S2, S3, S4, S5, S6, S7, S8, S9, S10, S11, S12, S13, S14, S15, S16, S17, opv, opvs, eget, env0, setD, lenStr, lenSl, isNilP, isNilS, putAt, if_true, if_false, reduceCtorEq, Nat.reduceLeDiff, Nat.reduceEqDiff, Nat.reduceSub, Nat.reduceMul, Nat.reduceAdd]
      refine fin_keep (by rw [List.length_set]; exact hbl) ?_
      rw [cutW, cutBad, ← hcut]
      exact OFl.retL hof (by omega) (by simp)
    simp -implicitDefEqProofs only [hx, nat_nn, Nat.zero_le, S0, S1, S2, S3, S4, S5, S6, S7, S8, S9, S10, S11, S12, S13, S14, S15, S16, S17, opv, opvs, eget, env0, setD, lenStr, lenSl, isNilP, isNilS, putAt, if_true, if_false, reduceCtorEq, Nat.reduceLeDiff, Nat.reduceEqDiff, Nat.reduceSub, Nat.reduceMul, Nat.reduceAdd]
    refine cond_split (fun x34 => ?_) (fun x34 => ?_)
    · have hle1 : i + 1 ≤ line.length := by omega
      simp -implicitDefEqProofs only [hx, nat_nn, Nat.zero_le, more, hle1, List.take_length, S0, S1, S2, S3, S4, S5, S6, S7, S8, S9, S10, S11, S12, S13, S14, S15, S16, S17, opv, opvs, eget, env0, setD, lenStr, lenSl, isNilP, isNilS, putAt, if_true, if_false, reduceCtorEq, Nat.reduceLeDiff, Nat.reduceEqDiff, Nat.reduceSub, Nat.reduceMul, Nat.reduceAdd]
      refine call_pure (spec_l37Quoted (line.drop (i + 1)) (by rw [List.length_drop]; omega) _) ?_
      rcases hq : qF (line.drop (i + 1)) [] 0 with _ | ⟨w, k⟩
      · simp -implicitDefEqProofs only [id1, id2, id3, s1, hone, hlv, nat_nn, Nat.zero_le, c1, qR, beq_self_eq_true, cond_t, cond_f, S0, S1, S2, S3, S4, S5, S6, S7, S8, S9, S10, S11, S12, S13, S14, S15, S16, S17, opv, opvs, eget, env0, setD, lenStr, lenSl, isNilP, isNilS, putAt, if_true, if_false, reduceCtorEq, Nat.reduceLeDiff, Nat.reduceEqDiff, Nat.reduceSub, Nat.reduceMul, Nat.reduceAdd]
        refine fin_keep (by rw [List.length_set]; exact hbl) ?_
        have hn : cutF line [] = none := by
          rw [← hcut, hd]
          exact cut_none x32 x35 (word_q0 x34 hq)
        rw [cutW, cutBad, hn]
        exact bad_retL hof (by omega)
      have hge := qF_ge _ _ (Nat.le_refl _) hq
      rw [List.length_drop] at hge
      have k0 : ((((k : Nat) : Int) + 0) == 0) = false := by simp; omega
      obtain ⟨n, hnk⟩ : ∃ n, n = i + 1 + k := ⟨_, rfl⟩
      have nk : IntKind.i64.wrap (((i + 1 : Nat) : Int) + (((k : Nat) : Int) + 0)) = ((n : Nat) : Int) := by rw [IntWalk.i64_in _ (by omega)]; omega
      simp -implicitDefEqProofs only [qR, k0, cond_t, cond_f, more, nk, S0, S1, S2, S3, S4, S5, S6, S7, S8, S9, S10, S11, S12, S13, S14, S15, S16, S17, opv, opvs, eget, env0, setD, lenStr, lenSl, isNilP, isNilS, putAt, if_true, if_false, reduceCtorEq, Nat.reduceLeDiff, Nat.reduceEqDiff, Nat.reduceSub, Nat.reduceMul, Nat.reduceAdd]
      have hword : wordAt (x :: line.drop (i + 1)) = some (w, n - i) := by rw [word_q x34 hq, show n - i = k + 1 by omega]
      have hn1 : n ≤ line.length := by omega
      have hin : i < n := by omega
      have hstep := cut_word (ws := ws) x32 x35 hword
      rw [← hd, List.drop_drop, show i + (n - i) = n by omega] at hstep
      rw [hstep] at hcut
      have badEnd : ∀ b : Bool, (endB (line.drop n) && decide (w.length ≤ 200) && decide (ws.length < 8)) = b → b = false → cutF line [] = none := by
        intro b hb hf
        rw [← hcut, hb, hf]
        rfl
      have goOn : ∀ b : Bool, (endB (line.drop n) && decide (w.length ≤ 200) && decide (ws.length < 8)) = b → b = true → cutF (line.drop n) (ws ++ [w]) = cutF line [] := by
        intro b hb hf
        rw [← hcut, hb, hf]
        rfl
      have hh : True := trivial
      have hend : ∃ z : Bool, endB (line.drop n) = z ∧ True := ⟨_, rfl, trivial⟩
      have wl : ∀ v' s' is', s.length ≤ s'.length → OFl (σ ++ [.box [.nils, .t (.bool false)], .box [.nils, .t (.bool true)], .box [v, .t (.bool false)]]) 1 (ws.map tStr ++ [tStr w]) v' s' is' → s'[σ.length + 2]? = some (.box [v, .t (.bool false)]) := fun v' s' is' _ h => h.box (by simp)
      have reb : ∀ v' s' is', OFl (σ ++ [.box [.nils, .t (.bool false)], .box [.nils, .t (.bool true)], .box [v, .t (.bool false)]]) 1 (ws.map tStr ++ [tStr w]) v' s' is' → OFl (σ ++ [.box [.nils, .t (.bool false)], .box [.nils, .t (.bool true)], .box [v', .t (.bool false)]]) 1 (ws.map tStr ++ [tStr w]) v' (s'.set (σ.length + 2) (.box [v', .t (.bool false)])) is' := by
        intro v' s' is' h
        have e : ∀ o : Go.Ab.Obj, σ ++ [.box [.nils, .t (.bool false)], .box [.nils, .t (.bool true)], o] = (σ ++ [.box [.nils, .t (.bool false)], .box [.nils, .t (.bool true)]]) ++ [o] := fun o => by simp
        rw [e] at h ⊢
        exact OFl.rebase h (by simp)
      rcases Nat.lt_or_ge n line.length with hnl | hnl
      · obtain ⟨y, hy⟩ : ∃ y, line[n]? = some y := ⟨line[n], by simp [hnl]⟩
        have dn : decide (((n : Nat) : Int) < ((line.length : Nat) : Int)) = true := by simp; omega
        have he := endB_at hy
        simp -implicitDefEqProofs only [dn, cond_t, cond_f, hy, id1, id2, id3, s1, hone, hlv, nat_nn, Nat.zero_le, c1, more, S0, S1, S2, S3, S4, S5, S6, S7, S8, S9, S10, S11, S12, S13, S14, S15, S16, S17, opv, opvs, eget, env0, setD, lenStr, lenSl, isNilP, isNilS, putAt, if_true, if_false, reduceCtorEq, Nat.reduceLeDiff, Nat.reduceEqDiff, Nat.reduceSub, Nat.reduceMul, Nat.reduceAdd]
        repeat' (first
          | ((with_reducible refine cond_known (fun h => ?_) (fun h => ?_)) <;> (replace hh := And.intro h hh; clear h; simp -implicitDefEqProofs only [hh, dn, hy, cond_t, cond_f, id1, id2, id3, s1, hone, hlv, nat_nn, Nat.zero_le, c1, more, S0, S1, S2, S3, S4, S5, S6, S7, S8, S9, S10, S11, S12, S13, S14, S15, S16, S17, opv, opvs, eget, env0, setD, lenStr, lenSl, isNilP, isNilS, putAt, if_true, if_false, reduceCtorEq, Nat.reduceLeDiff, Nat.reduceEqDiff, Nat.reduceSub, Nat.reduceMul, Nat.reduceAdd]))
          | (refine fin_keep (by rw [List.length_set]; exact hbl) ?_; have hn := badEnd _ rfl (by (try simp only [Known] at hh); grind); rw [cutW, cutBad, hn]; exact bad_retL hof (by omega))
          | (refine lit_rows ?_; simp -implicitDefEqProofs only [hh, cond_t, cond_f, id1, id2, id3, s1, hone, hlv, nat_nn, Nat.zero_le, c1, more, S0, S1, S2, S3, S4, S5, S6, S7, S8, S9, S10, S11, S12, S13, S14, S15, S16, S17, opv, opvs, eget, env0, setD, lenStr, lenSl, isNilP, isNilS, putAt, if_true, if_false, reduceCtorEq, Nat.reduceLeDiff, Nat.reduceEqDiff, Nat.reduceSub, Nat.reduceMul, Nat.reduceAdd]; refine hof.app (r := [.str w]) (by simp [scalar]) (by rw [List.length_map]; simp only [maxBy]; omega) (by rw [List.length_map]; omega) ?_; intro v' s' is' hle hof'; have id4 := wl v' s' is' hle hof'; have hone' := hof'.one; simp -implicitDefEqProofs only [id4, one_cells hone', hone', S0, S1, S2, S3, S4, S5, S6, S7, S8, S9, S10, S11, S12, S13, S14, S15, S16, S17, opv, opvs, eget, env0, setD, lenStr, lenSl, isNilP, isNilS, putAt, if_true, if_false, reduceCtorEq, Nat.reduceLeDiff, Nat.reduceEqDiff, Nat.reduceSub, Nat.reduceMul, Nat.reduceAdd]; refine lk_g ⟨n, ws ++ [w], v', _, is'⟩ (by simp only; omega) ⟨hn1, goOn _ rfl (by (try simp only [Known] at hh); grind), ?_, by (try simp only [Known] at hh); simp only [List.length_append, List.length_cons, List.length_nil]; grind⟩ (by rw [List.length_set]; omega) rfl rfl; simp only [List.map_append, List.map_cons, List.map_nil]; exact reb _ _ _ hof'))
      · have hnn : n = line.length := by omega
        have dn : decide (((n : Nat) : Int) < ((line.length : Nat) : Int)) = false := by simp; omega
        have he : endB (line.drop n) = true := by rw [hnn, List.drop_length]; rfl
        simp -implicitDefEqProofs only [dn, cond_t, cond_f, id1, id2, id3, s1, hone, hlv, nat_nn, Nat.zero_le, c1, more, S0, S1, S2, S3, S4, S5, S6, S7, S8, S9, S10, S11, S12, S13, S14, S15, S16, S17, opv, opvs, eget, env0, setD, lenStr, lenSl, isNilP, isNilS, putAt, if_true, if_false, reduceCtorEq, Nat.reduceLeDiff, Nat.reduceEqDiff, Nat.reduceSub, Nat.reduceMul, Nat.reduceAdd]
        repeat' (first
          | ((with_reducible refine cond_known (fun h => ?_) (fun h => ?_)) <;> (replace hh := And.intro h hh; clear h; simp -implicitDefEqProofs only [hh, dn, cond_t, cond_f, id1, id2, id3, s1, hone, hlv, nat_nn, Nat.zero_le, c1, more, S0, S1, S2, S3, S4, S5, S6, S7, S8, S9, S10, S11, S12, S13, S14, S15, S16, S17, opv, opvs, eget, env0, setD, lenStr, lenSl, isNilP, isNilS, putAt, if_true, if_false, reduceCtorEq, Nat.reduceLeDiff, Nat.reduceEqDiff, Nat.reduceSub, Nat.reduceMul, Nat.reduceAdd]))
          | (refine fin_keep (by rw [List.length_set]; exact hbl) ?_; have hn := badEnd _ rfl (by (try simp only [Known] at hh); grind); rw [cutW, cutBad, hn]; exact bad_retL hof (by omega))
          | (refine lit_rows ?_; simp -implicitDefEqProofs only [hh, cond_t, cond_f, id1, id2, id3, s1, hone, hlv, nat_nn, Nat.zero_le, c1, more, S0, S1, S2, S3, S4, S5, S6, S7, S8, S9, S10, S11, S12, S13, S14, S15, S16, S17, opv, opvs, eget, env0, setD, lenStr, lenSl, isNilP, isNilS, putAt, if_true, if_false, reduceCtorEq, Nat.reduceLeDiff, Nat.reduceEqDiff, Nat.reduceSub, Nat.reduceMul, Nat.reduceAdd]; refine hof.app (r := [.str w]) (by simp [scalar]) (by rw [List.length_map]; simp only [maxBy]; omega) (by rw [List.length_map]; omega) ?_; intro v' s' is' hle hof'; have id4 := wl v' s' is' hle hof'; have hone' := hof'.one; simp -implicitDefEqProofs only [id4, one_cells hone', hone', S0, S1, S2, S3, S4, S5, S6, S7, S8, S9, S10, S11, S12, S13, S14, S15, S16, S17, opv, opvs, eget, env0, setD, lenStr, lenSl, isNilP, isNilS, putAt, if_true, if_false, reduceCtorEq, Nat.reduceLeDiff, Nat.reduceEqDiff, Nat.reduceSub, Nat.reduceMul, Nat.reduceAdd]; refine lk_g ⟨n, ws ++ [w], v', _, is'⟩ (by simp only; omega) ⟨hn1, goOn _ rfl (by (try simp only [Known] at hh); grind), ?_, by (try simp only [Known] at hh); simp only [List.length_append, List.length_cons, List.length_nil]; grind⟩ (by rw [List.length_set]; omega) rfl rfl; simp only [List.map_append, List.map_cons, List.map_nil]; exact reb _ _ _ hof'))
    · simp -implicitDefEqProofs only [S0, S1, S2, S3, S4, S5, S6, S7, S8, S9, S10, S11, S12, S13, S14, S15, S16, S17, opv, opvs, eget, env0, setD, lenStr, lenSl, isNilP, isNilS, putAt, if_true, if_false, reduceCtorEq, Nat.reduceLeDiff, Nat.reduceEqDiff, Nat.reduceSub, Nat.reduceMul, Nat.reduceAdd]
      refine loop_p [7, 0, 2, 3, 4, 5] [0, 2, 3, 4, 5] (fun n : Nat => [(7, .t (.int .i64 (n : Nat)))]) (fun n => i ≤ n ∧ n ≤ line.length ∧ ((line.drop i).take (n - i)).all bareB = true) (fun n => line.length - n) i hbl ⟨Nat.le_refl _, hk, by simp⟩ rfl ?_
      rintro n ⟨hin, hn1, hall⟩
      have done : (∀ c r, (line.drop i).drop (n - i) = c :: r → bareB c = false) → (line.drop i).takeWhile bareB = (line.drop i).take (n - i) := tw_of hall
      rw [List.drop_drop, show i + (n - i) = n by omega] at done
      have moren := i64_succ (show n < 4611686018427387904 by omega)
      have wlen : ((line.take n).drop i).length = n - i := by rw [List.length_drop, List.length_take]; omega
      have wis : (line.drop i).take (n - i) = (line.take n).drop i := (List.drop_take ..).symm
      have after : (line.drop i).takeWhile bareB = (line.take n).drop i → ∀ b : Bool, ((((n : Nat) : Int) == ((i : Nat) : Int)) = b) → wordAt (x :: line.drop (i + 1)) = if b = true then none else some ((line.take n).drop i, n - i) := by
        rintro htw b rfl
        have := word_b (r := line.drop (i + 1)) (w := (line.take n).drop i) x34 (by rw [← hd]; exact htw)
        rw [this, wlen]
        by_cases hni : n - i = 0
        · have e : (((n : Nat) : Int) == ((i : Nat) : Int)) = true := by simp only [beq_iff_eq]; omega
          rw [if_pos hni, e, if_pos rfl]
        · have e : (((n : Nat) : Int) == ((i : Nat) : Int)) = false := by simp only [beq_eq_false_iff_ne, ne_eq]; omega
          rw [if_neg hni, e]
          rfl
      simp -implicitDefEqProofs only [keep, S0, S1, S2, S3, S4, S5, S6, S7, S8, S9, S10, S11, S12, S13, S14, S15, S16, S17, opv, opvs, eget, env0, setD, lenStr, lenSl, isNilP, isNilS, putAt, if_true, if_false, reduceCtorEq, Nat.reduceLeDiff, Nat.reduceEqDiff, Nat.reduceSub, Nat.reduceMul, Nat.reduceAdd]
      rcases Nat.lt_or_ge n line.length with hnl | hnl
      · obtain ⟨y, hy⟩ : ∃ y, line[n]? = some y := ⟨line[n], by simp [hnl]⟩
        have dn : decide (((n : Nat) : Int) < ((line.length : Nat) : Int)) = true := by simp; omega
        simp -implicitDefEqProofs only [dn, hy, nat_nn, Nat.zero_le, cond_t, cond_f, S0, S1, S2, S3, S4, S5, S6, S7, S8, S9, S10, S11, S12, S13, S14, S15, S16, S17, opv, opvs, eget, env0, setD, lenStr, lenSl, isNilP, isNilS, putAt, if_true, if_false, reduceCtorEq, Nat.reduceLeDiff, Nat.reduceEqDiff, Nat.reduceSub, Nat.reduceMul, Nat.reduceAdd]
        refine call_pure (spec_l37Bare y _) ?_
        rcases hb : bareB y with _ | _
        rotate_left
        · simp -implicitDefEqProofs only [hb, cond_t, cond_f, moren, S0, S1, S2, S3, S4, S5, S6, S7, S8, S9, S10, S11, S12, S13, S14, S15, S16, S17, opv, opvs, eget, env0, setD, lenStr, lenSl, isNilP, isNilS, putAt, if_true, if_false, reduceCtorEq, Nat.reduceLeDiff, Nat.reduceEqDiff, Nat.reduceSub, Nat.reduceMul, Nat.reduceAdd]
          refine lk_p0 (n + 1) hbl (by simp) (by omega) ⟨by omega, by omega, ?_⟩ rfl
          rw [show n + 1 - i = (n - i) + 1 by omega, take_of (show (line.drop i)[n - i]? = some y by rw [List.getElem?_drop, show i + (n - i) = n by omega]; exact hy), List.all_append, hall]
          simp [hb]
        have htw := done (fun c r e => by rw [drop_of hy] at e; cases e; exact hb)
        rw [wis] at htw
        have hword0 := after htw
        simp -implicitDefEqProofs only [hb, cond_t, cond_f, nat_nn, Nat.zero_le, hn1, hin, S0, S1, S2, S3, S4, S5, S6, S7, S8, S9, S10, S11, S12, S13, S14, S15, S16, S17, opv, opvs, eget, env0, setD, lenStr, lenSl, isNilP, isNilS, putAt, if_true, if_false, reduceCtorEq, Nat.reduceLeDiff, Nat.reduceEqDiff, Nat.reduceSub, Nat.reduceMul, Nat.reduceAdd]
        refine cond_split (fun e => ?_) (fun e => ?_)
        · have hw0 := hword0 _ e
          simp -implicitDefEqProofs only [id1, id2, id3, s1, hone, hlv, nat_nn, Nat.zero_le, c1, S0, S1, S2, S3, S4, S5, S6, S7, S8, S9, S10, S11, S12, S13, S14, S15, S16, S17, opv, opvs, eget, env0, setD, lenStr, lenSl, isNilP, isNilS, putAt, if_true, if_false, reduceCtorEq, Nat.reduceLeDiff, Nat.reduceEqDiff, Nat.reduceSub, Nat.reduceMul, Nat.reduceAdd]
          refine fin_keep (by rw [List.length_set]; exact hbl) ?_
          have hn : cutF line [] = none := by
            rw [← hcut, hd]
            exact cut_none x32 x35 hw0
          rw [cutW, cutBad, hn]
          exact bad_retL hof (by omega)
        have hword := hword0 _ e
        rw [if_neg (by simp)] at hword
        have hin' : i < n := by have : ¬ ((n : Int) = (i : Int)) := by simpa using e
                                omega
        generalize (line.take n).drop i = w at *
        simp -implicitDefEqProofs only [S0, S1, S2, S3, S4, S5, S6, S7, S8, S9, S10, S11, S12, S13, S14, S15, S16, S17, opv, opvs, eget, env0, setD, lenStr, lenSl, isNilP, isNilS, putAt, if_true, if_false, reduceCtorEq, Nat.reduceLeDiff, Nat.reduceEqDiff, Nat.reduceSub, Nat.reduceMul, Nat.reduceAdd]
        have hstep := cut_word (ws := ws) x32 x35 hword
        rw [← hd, List.drop_drop, show i + (n - i) = n by omega] at hstep
        rw [hstep] at hcut
        have badEnd : ∀ b : Bool, (endB (line.drop n) && decide (w.length ≤ 200) && decide (ws.length < 8)) = b → b = false → cutF line [] = none := by
          intro b hb hf
          rw [← hcut, hb, hf]
          rfl
        have goOn : ∀ b : Bool, (endB (line.drop n) && decide (w.length ≤ 200) && decide (ws.length < 8)) = b → b = true → cutF (line.drop n) (ws ++ [w]) = cutF line [] := by
          intro b hb hf
          rw [← hcut, hb, hf]
          rfl
        have hh : True := trivial
        have hend : ∃ z : Bool, endB (line.drop n) = z ∧ True := ⟨_, rfl, trivial⟩
        have wl : ∀ v' s' is', s.length ≤ s'.length → OFl (σ ++ [.box [.nils, .t (.bool false)], .box [.nils, .t (.bool true)], .box [v, .t (.bool false)]]) 1 (ws.map tStr ++ [tStr w]) v' s' is' → s'[σ.length + 2]? = some (.box [v, .t (.bool false)]) := fun v' s' is' _ h => h.box (by simp)
        have reb : ∀ v' s' is', OFl (σ ++ [.box [.nils, .t (.bool false)], .box [.nils, .t (.bool true)], .box [v, .t (.bool false)]]) 1 (ws.map tStr ++ [tStr w]) v' s' is' → OFl (σ ++ [.box [.nils, .t (.bool false)], .box [.nils, .t (.bool true)], .box [v', .t (.bool false)]]) 1 (ws.map tStr ++ [tStr w]) v' (s'.set (σ.length + 2) (.box [v', .t (.bool false)])) is' := by
          intro v' s' is' h
          have e : ∀ o : Go.Ab.Obj, σ ++ [.box [.nils, .t (.bool false)], .box [.nils, .t (.bool true)], o] = (σ ++ [.box [.nils, .t (.bool false)], .box [.nils, .t (.bool true)]]) ++ [o] := fun o => by simp
          rw [e] at h ⊢
          exact OFl.rebase h (by simp)
        rcases Nat.lt_or_ge n line.length with hnl | hnl
        · obtain ⟨y, hy⟩ : ∃ y, line[n]? = some y := ⟨line[n], by simp [hnl]⟩
          have dn : decide (((n : Nat) : Int) < ((line.length : Nat) : Int)) = true := by simp; omega
          have he := endB_at hy
          simp -implicitDefEqProofs only [dn, cond_t, cond_f, hy, id1, id2, id3, s1, hone, hlv, nat_nn, Nat.zero_le, c1, more, S0, S1, S2, S3, S4, S5, S6, S7, S8, S9, S10, S11, S12, S13, S14, S15, S16, S17, opv, opvs, eget, env0, setD, lenStr, lenSl, isNilP, isNilS, putAt, if_true, if_false, reduceCtorEq, Nat.reduceLeDiff, Nat.reduceEqDiff, Nat.reduceSub, Nat.reduceMul, Nat.reduceAdd]
          repeat' (first
            | ((with_reducible refine cond_known (fun h => ?_) (fun h => ?_)) <;> (replace hh := And.intro h hh; clear h; simp -implicitDefEqProofs only [hh, dn, hy, cond_t, cond_f, id1, id2, id3, s1, hone, hlv, nat_nn, Nat.zero_le, c1, more, S0, S1, S2, S3, S4, S5, S6, S7, S8, S9, S10, S11, S12, S13, S14, S15, S16, S17, opv, opvs, eget, env0, setD, lenStr, lenSl, isNilP, isNilS, putAt, if_true, if_false, reduceCtorEq, Nat.reduceLeDiff, Nat.reduceEqDiff, Nat.reduceSub, Nat.reduceMul, Nat.reduceAdd]))
            | (refine fin_keep (by rw [List.length_set]; exact hbl) ?_; have hn := badEnd _ rfl (by (try simp only [Known] at hh); grind); rw [cutW, cutBad, hn]; exact bad_retL hof (by omega))
            | (refine lit_rows ?_; simp -implicitDefEqProofs only [hh, cond_t, cond_f, id1, id2, id3, s1, hone, hlv, nat_nn, Nat.zero_le, c1, more, S0, S1, S2, S3, S4, S5, S6, S7, S8, S9, S10, S11, S12, S13, S14, S15, S16, S17, opv, opvs, eget, env0, setD, lenStr, lenSl, isNilP, isNilS, putAt, if_true, if_false, reduceCtorEq, Nat.reduceLeDiff, Nat.reduceEqDiff, Nat.reduceSub, Nat.reduceMul, Nat.reduceAdd]; refine hof.app (r := [.str w]) (by simp [scalar]) (by rw [List.length_map]; simp only [maxBy]; omega) (by rw [List.length_map]; omega) ?_; intro v' s' is' hle hof'; have id4 := wl v' s' is' hle hof'; have hone' := hof'.one; simp -implicitDefEqProofs only [id4, one_cells hone', hone', S0, S1, S2, S3, S4, S5, S6, S7, S8, S9, S10, S11, S12, S13, S14, S15, S16, S17, opv, opvs, eget, env0, setD, lenStr, lenSl, isNilP, isNilS, putAt, if_true, if_false, reduceCtorEq, Nat.reduceLeDiff, Nat.reduceEqDiff, Nat.reduceSub, Nat.reduceMul, Nat.reduceAdd]; refine lk_g ⟨n, ws ++ [w], v', _, is'⟩ (by simp only; omega) ⟨hn1, goOn _ rfl (by (try simp only [Known] at hh); grind), ?_, by (try simp only [Known] at hh); simp only [List.length_append, List.length_cons, List.length_nil]; grind⟩ (by rw [List.length_set]; omega) rfl rfl; simp only [List.map_append, List.map_cons, List.map_nil]; exact reb _ _ _ hof'))
        · have hnn : n = line.length := by omega
          have dn : decide (((n : Nat) : Int) < ((line.length : Nat) : Int)) = false := by simp; omega
          have he : endB (line.drop n) = true := by rw [hnn, List.drop_length]; rfl
          simp -implicitDefEqProofs only [dn, cond_t, cond_f, id1, id2, id3, s1, hone, hlv, nat_nn, Nat.zero_le, c1, more, S0, S1, S2, S3, S4, S5, S6, S7, S8, S9, S10, S11, S12, S13, S14, S15, S16, S17, opv, opvs, eget, env0, setD, lenStr, lenSl, isNilP, isNilS, putAt, if_true, if_false, reduceCtorEq, Nat.reduceLeDiff, Nat.reduceEqDiff, Nat.reduceSub, Nat.reduceMul, Nat.reduceAdd]
          repeat' (first
            | ((with_reducible refine cond_known (fun h => ?_) (fun h => ?_)) <;> (replace hh := And.intro h hh; clear h; simp -implicitDefEqProofs only [hh, dn, cond_t, cond_f, id1, id2, id3, s1, hone, hlv, nat_nn, Nat.zero_le, c1, more, S0, S1, S2, S3, S4, S5, S6, S7, S8, S9, S10, S11, S12, S13, S14, S15, S16, S17, opv, opvs, eget, env0, setD, lenStr, lenSl, isNilP, isNilS, putAt, if_true, if_false, reduceCtorEq, Nat.reduceLeDiff, Nat.reduceEqDiff, Nat.reduceSub, Nat.reduceMul, Nat.reduceAdd]))
            | (refine fin_keep (by rw [List.length_set]; exact hbl) ?_; have hn := badEnd _ rfl (by (try simp only [Known] at hh); grind); rw [cutW, cutBad, hn]; exact bad_retL hof (by omega))
            | (refine lit_rows ?_; simp -implicitDefEqProofs only [hh, cond_t, cond_f, id1, id2, id3, s1, hone, hlv, nat_nn, Nat.zero_le, c1, more, S0, S1, S2, S3, S4, S5, S6, S7, S8, S9, S10, S11, S12, S13, S14, S15, S16, S17, opv, opvs, eget, env0, setD, lenStr, lenSl, isNilP, isNilS, putAt, if_true, if_false, reduceCtorEq, Nat.reduceLeDiff, Nat.reduceEqDiff, Nat.reduceSub, Nat.reduceMul, Nat.reduceAdd]; refine hof.app (r := [.str w]) (by simp [scalar]) (by rw [List.length_map]; simp only [maxBy]; omega) (by rw [List.length_map]; omega) ?_; intro v' s' is' hle hof'; have id4 := wl v' s' is' hle hof'; have hone' := hof'.one; simp -implicitDefEqProofs only [id4, one_cells hone', hone', S0, S1, S2, S3, S4, S5, S6, S7, S8, S9, S10, S11, S12, S13, S14, S15, S16, S17, opv, opvs, eget, env0, setD, lenStr, lenSl, isNilP, isNilS, putAt, if_true, if_false, reduceCtorEq, Nat.reduceLeDiff, Nat.reduceEqDiff, Nat.reduceSub, Nat.reduceMul, Nat.reduceAdd]; refine lk_g ⟨n, ws ++ [w], v', _, is'⟩ (by simp only; omega) ⟨hn1, goOn _ rfl (by (try simp only [Known] at hh); grind), ?_, by (try simp only [Known] at hh); simp only [List.length_append, List.length_cons, List.length_nil]; grind⟩ (by rw [List.length_set]; omega) rfl rfl; simp only [List.map_append, List.map_cons, List.map_nil]; exact reb _ _ _ hof'))
      · have hnn : n = line.length := by omega
        have dn : decide (((n : Nat) : Int) < ((line.length : Nat) : Int)) = false := by simp; omega
        have htw := done (fun c r e => by rw [hnn, List.drop_length] at e; cases e)
        rw [wis] at htw
        have hword0 := after htw
        simp -implicitDefEqProofs only [dn, nat_nn, Nat.zero_le, cond_t, cond_f, hn1, hin, S0, S1, S2, S3, S4, S5, S6, S7, S8, S9, S10, S11, S12, S13, S14, S15, S16, S17, opv, opvs, eget, env0, setD, lenStr, lenSl, isNilP, isNilS, putAt, if_true, if_false, reduceCtorEq, Nat.reduceLeDiff, Nat.reduceEqDiff, Nat.reduceSub, Nat.reduceMul, Nat.reduceAdd]
        refine cond_split (fun e => ?_) (fun e => ?_)
        · have hw0 := hword0 _ e
          simp -implicitDefEqProofs only [id1, id2, id3, s1, hone, hlv, nat_nn, Nat.zero_le, c1, S0, S1, S2, S3, S4, S5, S6, S7, S8, S9, S10, S11, S12, S13, S14, S15, S16, S17, opv, opvs, eget, env0, setD, lenStr, lenSl, isNilP, isNilS, putAt, if_true, if_false, reduceCtorEq, Nat.reduceLeDiff, Nat.reduceEqDiff, Nat.reduceSub, Nat.reduceMul, Nat.reduceAdd]
          refine fin_keep (by rw [List.length_set]; exact hbl) ?_
          have hn : cutF line [] = none := by
            rw [← hcut, hd]
            exact cut_none x32 x35 hw0
          rw [cutW, cutBad, hn]
          exact bad_retL hof (by omega)
        have hword := hword0 _ e
        rw [if_neg (by simp)] at hword
        have hin' : i < n := by have : ¬ ((n : Int) = (i : Int)) := by simpa using e
                                omega
        generalize (line.take n).drop i = w at *
        simp -implicitDefEqProofs only [S0, S1, S2, S3, S4, S5, S6, S7, S8, S9, S10, S11, S12, S13, S14, S15, S16, S17, opv, opvs, eget, env0, setD, lenStr, lenSl, isNilP, isNilS, putAt, if_true, if_false, reduceCtorEq, Nat.reduceLeDiff, Nat.reduceEqDiff, Nat.reduceSub, Nat.reduceMul, Nat.reduceAdd]
        have hstep := cut_word (ws := ws) x32 x35 hword
        rw [← hd, List.drop_drop, show i + (n - i) = n by omega] at hstep
        rw [hstep] at hcut
        have badEnd : ∀ b : Bool, (endB (line.drop n) && decide (w.length ≤ 200) && decide (ws.length < 8)) = b → b = false → cutF line [] = none := by
          intro b hb hf
          rw [← hcut, hb, hf]
          rfl
        have goOn : ∀ b : Bool, (endB (line.drop n) && decide (w.length ≤ 200) && decide (ws.length < 8)) = b → b = true → cutF (line.drop n) (ws ++ [w]) = cutF line [] := by
          intro b hb hf
          rw [← hcut, hb, hf]
          rfl
        have hh : True := trivial
        have hend : ∃ z : Bool, endB (line.drop n) = z ∧ True := ⟨_, rfl, trivial⟩
        have wl : ∀ v' s' is', s.length ≤ s'.length → OFl (σ ++ [.box [.nils, .t (.bool false)], .box [.nils, .t (.bool true)], .box [v, .t (.bool false)]]) 1 (ws.map tStr ++ [tStr w]) v' s' is' → s'[σ.length + 2]? = some (.box [v, .t (.bool false)]) := fun v' s' is' _ h => h.box (by simp)
        have reb : ∀ v' s' is', OFl (σ ++ [.box [.nils, .t (.bool false)], .box [.nils, .t (.bool true)], .box [v, .t (.bool false)]]) 1 (ws.map tStr ++ [tStr w]) v' s' is' → OFl (σ ++ [.box [.nils, .t (.bool false)], .box [.nils, .t (.bool true)], .box [v', .t (.bool false)]]) 1 (ws.map tStr ++ [tStr w]) v' (s'.set (σ.length + 2) (.box [v', .t (.bool false)])) is' := by
          intro v' s' is' h
          have e : ∀ o : Go.Ab.Obj, σ ++ [.box [.nils, .t (.bool false)], .box [.nils, .t (.bool true)], o] = (σ ++ [.box [.nils, .t (.bool false)], .box [.nils, .t (.bool true)]]) ++ [o] := fun o => by simp
          rw [e] at h ⊢
          exact OFl.rebase h (by simp)
        rcases Nat.lt_or_ge n line.length with hnl | hnl
        · obtain ⟨y, hy⟩ : ∃ y, line[n]? = some y := ⟨line[n], by simp [hnl]⟩
          have dn : decide (((n : Nat) : Int) < ((line.length : Nat) : Int)) = true := by simp; omega
          have he := endB_at hy
          simp -implicitDefEqProofs only [dn, cond_t, cond_f, hy, id1, id2, id3, s1, hone, hlv, nat_nn, Nat.zero_le, c1, more, S0, S1, S2, S3, S4, S5, S6, S7, S8, S9, S10, S11, S12, S13, S14, S15, S16, S17, opv, opvs, eget, env0, setD, lenStr, lenSl, isNilP, isNilS, putAt, if_true, if_false, reduceCtorEq, Nat.reduceLeDiff, Nat.reduceEqDiff, Nat.reduceSub, Nat.reduceMul, Nat.reduceAdd]
          repeat' (first
            | ((with_reducible refine cond_known (fun h => ?_) (fun h => ?_)) <;> (replace hh := And.intro h hh; clear h; simp -implicitDefEqProofs only [hh, dn, hy, cond_t, cond_f, id1, id2, id3, s1, hone, hlv, nat_nn, Nat.zero_le, c1, more, S0, S1, S2, S3, S4, S5, S6, S7, S8, S9, S10, S11, S12, S13, S14, S15, S16, S17, opv, opvs, eget, env0, setD, lenStr, lenSl, isNilP, isNilS, putAt, if_true, if_false, reduceCtorEq, Nat.reduceLeDiff, Nat.reduceEqDiff, Nat.reduceSub, Nat.reduceMul, Nat.reduceAdd]))
            | (refine fin_keep (by rw [List.length_set]; exact hbl) ?_; have hn := badEnd _ rfl (by (try simp only [Known] at hh); grind); rw [cutW, cutBad, hn]; exact bad_retL hof (by omega))
            | (refine lit_rows ?_; simp -implicitDefEqProofs only [hh, cond_t, cond_f, id1, id2, id3, s1, hone, hlv, nat_nn, Nat.zero_le, c1, more, S0, S1, S2, S3, S4, S5, S6, S7, S8, S9, S10, S11, S12, S13, S14, S15, S16, S17, opv, opvs, eget, env0, setD, lenStr, lenSl, isNilP, isNilS, putAt, if_true, if_false, reduceCtorEq, Nat.reduceLeDiff, Nat.reduceEqDiff, Nat.reduceSub, Nat.reduceMul, Nat.reduceAdd]; refine hof.app (r := [.str w]) (by simp [scalar]) (by rw [List.length_map]; simp only [maxBy]; omega) (by rw [List.length_map]; omega) ?_; intro v' s' is' hle hof'; have id4 := wl v' s' is' hle hof'; have hone' := hof'.one; simp -implicitDefEqProofs only [id4, one_cells hone', hone', S0, S1, S2, S3, S4, S5, S6, S7, S8, S9, S10, S11, S12, S13, S14, S15, S16, S17, opv, opvs, eget, env0, setD, lenStr, lenSl, isNilP, isNilS, putAt, if_true, if_false, reduceCtorEq, Nat.reduceLeDiff, Nat.reduceEqDiff, Nat.reduceSub, Nat.reduceMul, Nat.reduceAdd]; refine lk_g ⟨n, ws ++ [w], v', _, is'⟩ (by simp only; omega) ⟨hn1, goOn _ rfl (by (try simp only [Known] at hh); grind), ?_, by (try simp only [Known] at hh); simp only [List.length_append, List.length_cons, List.length_nil]; grind⟩ (by rw [List.length_set]; omega) rfl rfl; simp only [List.map_append, List.map_cons, List.map_nil]; exact reb _ _ _ hof'))
        · have hnn : n = line.length := by omega
          have dn : decide (((n : Nat) : Int) < ((line.length : Nat) : Int)) = false := by simp; omega
          have he : endB (line.drop n) = true := by rw [hnn, List.drop_length]; rfl
          simp -implicitDefEqProofs only [dn, cond_t, cond_f, id1, id2, id3, s1, hone, hlv, nat_nn, Nat.zero_le, c1, more, S0, S1, S2, S3, S4, S5, S6, S7, S8, S9, S10, S11, S12, S13, S14, S15, S16, S17, opv, opvs, eget, env0, setD, lenStr, lenSl, isNilP, isNilS, putAt, if_true, if_false, reduceCtorEq, Nat.reduceLeDiff, Nat.reduceEqDiff, Nat.reduceSub, Nat.reduceMul, Nat.reduceAdd]
          repeat' (first
            | ((with_reducible refine cond_known (fun h => ?_) (fun h => ?_)) <;> (replace hh := And.intro h hh; clear h; simp -implicitDefEqProofs only [hh, dn, cond_t, cond_f, id1, id2, id3, s1, hone, hlv, nat_nn, Nat.zero_le, c1, more, S0, S1, S2, S3, S4, S5, S6, S7, S8, S9, S10, S11, S12, S13, S14, S15, S16, S17, opv, opvs, eget, env0, setD, lenStr, lenSl, isNilP, isNilS, putAt, if_true, if_false, reduceCtorEq, Nat.reduceLeDiff, Nat.reduceEqDiff, Nat.reduceSub, Nat.reduceMul, Nat.reduceAdd]))
            | (refine fin_keep (by rw [List.length_set]; exact hbl) ?_; have hn := badEnd _ rfl (by (try simp only [Known] at hh); grind); rw [cutW, cutBad, hn]; exact bad_retL hof (by omega))
            | (refine lit_rows ?_; simp -implicitDefEqProofs only [hh, cond_t, cond_f, id1, id2, id3, s1, hone, hlv, nat_nn, Nat.zero_le, c1, more, S0, S1, S2, S3, S4, S5, S6, S7, S8, S9, S10, S11, S12, S13, S14, S15, S16, S17, opv, opvs, eget, env0, setD, lenStr, lenSl, isNilP, isNilS, putAt, if_true, if_false, reduceCtorEq, Nat.reduceLeDiff, Nat.reduceEqDiff, Nat.reduceSub, Nat.reduceMul, Nat.reduceAdd]; refine hof.app (r := [.str w]) (by simp [scalar]) (by rw [List.length_map]; simp only [maxBy]; omega) (by rw [List.length_map]; omega) ?_; intro v' s' is' hle hof'; have id4 := wl v' s' is' hle hof'; have hone' := hof'.one; simp -implicitDefEqProofs only [id4, one_cells hone', hone', S0, S1, S2, S3, S4, S5, S6, S7, S8, S9, S10, S11, S12, S13, S14, S15, S16, S17, opv, opvs, eget, env0, setD, lenStr, lenSl, isNilP, isNilS, putAt, if_true, if_false, reduceCtorEq, Nat.reduceLeDiff, Nat.reduceEqDiff, Nat.reduceSub, Nat.reduceMul, Nat.reduceAdd]; refine lk_g ⟨n, ws ++ [w], v', _, is'⟩ (by simp only; omega) ⟨hn1, goOn _ rfl (by (try simp only [Known] at hh); grind), ?_, by (try simp only [Known] at hh); simp only [List.length_append, List.length_cons, List.length_nil]; grind⟩ (by rw [List.length_set]; omega) rfl rfl; simp only [List.map_append, List.map_cons, List.map_nil]; exact reb _ _ _ hof'))
  · have hkk := end_of h1 hk
    subst hkk
    rw [List.drop_length, cut_nil] at hcut
    simp -implicitDefEqProofs only [id1, id2, id3, s1, hone, hlv, nat_nn, Nat.zero_le, c1, S0, S1, S2, S3, S4, S5, S6, S7, S8, S9, S10, S11, S12, S13, S14, S15, S16, S17, opv, opvs, eget, env0, setD, lenStr, lenSl, isNilP, isNilS, putAt, if_true, if_false, reduceCtorEq, Nat.reduceLeDiff, Nat.reduceEqDiff, Nat.reduceSub, Nat.reduceMul, Nat.reduceAdd]
    refine fin_keep (by rw [List.length_set]; exact hbl) ?_
    rw [cutW, cutBad, ← hcut]
    exact OFl.retL hof (by omega) (by simp)

end Go.Proofs.Ytkppdeobinefbaa.W

end


section
open Go Go.Ab
set_option maxHeartbeats 2000000
namespace Go.Proofs.Ytkppdeobinefbaa.W
def CutR (line : List UInt8) (σ : Store) (r : V) (σ' : Store) : Prop := ∃ v τ is, r = .tup [v, .t (.bool (!cutBad line))] ∧ σ' = σ ++ τ ∧ Own σ' (tStrs (cutW line)) v is ∧ Wi is σ.length σ'.length
theorem cut_bad {line : List UInt8} {σ s : Store} {ws : List (List UInt8)} {v : V} {is : List Nat} (h : OFl σ 1 (ws.map tStr) v s is) (hn : cutF line [] = none) : CutR line σ (.tup [.nils, .t (.bool false)]) s := by
  obtain ⟨τ, is0, hs, _, _⟩ := OFl.toR (B := []) (by rw [List.append_nil]; exact h)
  refine ⟨_, τ, [], by rw [cutBad, hn]; rfl, hs, ?_, Wi.nil⟩
  rw [cutW, hn]
  exact own_empty (by omega)
theorem cut_good {line : List UInt8} {σ s : Store} {ws : List (List UInt8)} {v : V} {is : List Nat} (h : OFl σ 1 (ws.map tStr) v s is) (hn : cutF line [] = some ws) : CutR line σ (.tup [v, .t (.bool true)]) s := by
  obtain ⟨τ, is0, hs, h1, h2⟩ := OFl.toR (B := []) (by rw [List.append_nil]; exact h)
  refine ⟨_, τ, is0, by rw [cutBad, hn]; rfl, hs, ?_, h2⟩
  rw [cutW, hn]
  exact h1

def c_impl_cut : C := (.seq (.ops [⟨(some 2), none, (.mv (.c .nils))⟩, ⟨(some 3), none, (.mv (.c (.t (.bool false))))⟩]) (.seq (.ops [⟨(some 4), none, (.mv (.c .nils))⟩]) (.seq (.seq (.ops [⟨(some 5), none, (.mv (.c (.t (.int .i64 0))))⟩]) (.block 0 (.loop (.seq (.seq (.ops [⟨(some 9), none, (.mv (.t 5))⟩, ⟨(some 10), none, (.mv (.t 0))⟩, ⟨(some 11), none, (.len true (.t 10))⟩, ⟨(some 12), none, (.bin .lss (.t 9) (.t 11))⟩]) (.cond (.t 12) .skip (.exit 0))) (.block 1 (.seq (.ops [⟨(some 13), none, (.mv (.t 0))⟩, ⟨(some 14), none, (.mv (.t 5))⟩, ⟨(some 15), none, (.index (.t 13) (.t 14))⟩, ⟨(some 6), none, (.mv (.t 15))⟩]) (.seq (.seq (.ops [⟨(some 16), none, (.mv (.t 6))⟩, ⟨(some 17), none, (.bin .eql (.t 16) (.c (.t (.int .u8 32))))⟩]) (.cond (.t 17) (.seq (.ops [⟨(some 18), none, (.mv (.t 5))⟩, ⟨(some 19), none, (.bin .add (.t 18) (.c (.t (.int .i64 1))))⟩, ⟨(some 5), none, (.mv (.t 19))⟩]) (.exit 1)) .skip)) (.seq (.seq (.ops [⟨(some 20), none, (.mv (.t 6))⟩, ⟨(some 21), none, (.bin .eql (.t 20) (.c (.t (.int .u8 35))))⟩]) (.cond (.t 21) (.exit 0) .skip)) (.seq (.ops [⟨(some 7), none, (.mv (.c (.t (.str []))))⟩, ⟨(some 8), none, (.mv (.c (.t (.int .i64 0))))⟩]) (.seq (.seq (.ops [⟨(some 22), none, (.mv (.t 6))⟩, ⟨(some 23), none, (.bin .eql (.t 22) (.c (.t (.int .u8 34))))⟩]) (.cond (.t 23) (.ops [⟨(some 25), none, (.mv (.t 0))⟩, ⟨(some 26), none, (.mv (.t 5))⟩, ⟨(some 27), none, (.sliceStr (.t 25) (some (.t 26)) none)⟩, ⟨(some 28), none, (.call (.c (.fn (.func 30) [])) [(.t 27)])⟩, ⟨(some 24), none, (.mv (.t 28))⟩, ⟨(some 29), none, (.extract (.t 24) 0)⟩, ⟨(some 30), none, (.extract (.t 24) 1)⟩, ⟨(some 7), none, (.mv (.t 29))⟩, ⟨(some 8), none, (.mv (.t 30))⟩]) (.seq (.block 2 (.loop (.seq (.seq (.ops [⟨(some 31), none, (.mv (.t 5))⟩, ⟨(some 32), none, (.mv (.t 8))⟩, ⟨(some 33), none, (.bin .add (.t 31) (.t 32))⟩, ⟨(some 34), none, (.mv (.t 0))⟩, ⟨(some 35), none, (.len true (.t 34))⟩, ⟨(some 36), none, (.bin .lss (.t 33) (.t 35))⟩, ⟨(some 37), none, (.mv (.t 36))⟩, ⟨(some 38), (some ⟨37, true⟩), (.mv (.t 0))⟩, ⟨(some 39), (some ⟨37, true⟩), (.mv (.t 5))⟩, ⟨(some 40), (some ⟨37, true⟩), (.mv (.t 8))⟩, ⟨(some 41), (some ⟨37, true⟩), (.bin .add (.t 39) (.t 40))⟩, ⟨(some 42), (some ⟨37, true⟩), (.index (.t 38) (.t 41))⟩, ⟨(some 43), (some ⟨37, true⟩), (.call (.c (.fn (.func 17) [])) [(.t 42)])⟩, ⟨(some 44), none, (.pick (.t 37) (.t 43) (.c (.t (.bool false))))⟩]) (.cond (.t 44) .skip (.exit 2))) (.block 3 (.ops [⟨(some 45), none, (.mv (.t 8))⟩, ⟨(some 46), none, (.bin .add (.t 45) (.c (.t (.int .i64 1))))⟩, ⟨(some 8), none, (.mv (.t 46))⟩]))))) (.ops [⟨(some 47), none, (.mv (.t 0))⟩, ⟨(some 48), none, (.mv (.t 5))⟩, ⟨(some 49), none, (.mv (.t 5))⟩, ⟨(some 50), none, (.mv (.t 8))⟩, ⟨(some 51), none, (.bin .add (.t 49) (.t 50))⟩, ⟨(some 52), none, (.sliceStr (.t 47) (some (.t 48)) (some (.t 51)))⟩, ⟨(some 7), none, (.mv (.t 52))⟩])))) (.seq (.ops [⟨(some 53), none, (.mv (.t 5))⟩, ⟨(some 54), none, (.mv (.t 8))⟩, ⟨(some 55), none, (.bin .add (.t 53) (.t 54))⟩, ⟨(some 5), none, (.mv (.t 55))⟩]) (.seq (.seq (.ops [⟨(some 56), none, (.mv (.t 8))⟩, ⟨(some 57), none, (.bin .eql (.t 56) (.c (.t (.int .i64 0))))⟩, ⟨(some 58), none, (.mv (.t 57))⟩, ⟨(some 59), (some ⟨58, false⟩), (.mv (.t 7))⟩, ⟨(some 60), (some ⟨58, false⟩), (.len true (.t 59))⟩, ⟨(some 61), (some ⟨58, false⟩), (.bin .gtr (.t 60) (.c (.t (.int .i64 200))))⟩, ⟨(some 62), none, (.pick (.t 58) (.c (.t (.bool true))) (.t 61))⟩, ⟨(some 63), none, (.mv (.t 62))⟩, ⟨(some 64), (some ⟨63, false⟩), (.mv (.t 4))⟩, ⟨(some 65), (some ⟨63, false⟩), (.len false (.t 64))⟩, ⟨(some 66), (some ⟨63, false⟩), (.bin .eql (.t 65) (.c (.t (.int .i64 8))))⟩, ⟨(some 67), none, (.pick (.t 63) (.c (.t (.bool true))) (.t 66))⟩, ⟨(some 68), none, (.mv (.t 67))⟩, ⟨(some 69), (some ⟨68, false⟩), (.mv (.t 5))⟩, ⟨(some 70), (some ⟨68, false⟩), (.mv (.t 0))⟩, ⟨(some 71), (some ⟨68, false⟩), (.len true (.t 70))⟩, ⟨(some 72), (some ⟨68, false⟩), (.bin .lss (.t 69) (.t 71))⟩, ⟨(some 73), (some ⟨68, false⟩), (.mv (.t 72))⟩, ⟨(some 74), (some ⟨73, true⟩), (.mv (.t 0))⟩, ⟨(some 75), (some ⟨73, true⟩), (.mv (.t 5))⟩, ⟨(some 76), (some ⟨73, true⟩), (.index (.t 74) (.t 75))⟩, ⟨(some 77), (some ⟨73, true⟩), (.bin .neq (.t 76) (.c (.t (.int .u8 32))))⟩, ⟨(some 78), (some ⟨68, false⟩), (.pick (.t 73) (.t 77) (.c (.t (.bool false))))⟩, ⟨(some 79), (some ⟨68, false⟩), (.mv (.t 78))⟩, ⟨(some 80), (some ⟨79, true⟩), (.mv (.t 0))⟩, ⟨(some 81), (some ⟨79, true⟩), (.mv (.t 5))⟩, ⟨(some 82), (some ⟨79, true⟩), (.index (.t 80) (.t 81))⟩, ⟨(some 83), (some ⟨79, true⟩), (.bin .neq (.t 82) (.c (.t (.int .u8 35))))⟩, ⟨(some 84), (some ⟨68, false⟩), (.pick (.t 79) (.t 83) (.c (.t (.bool false))))⟩, ⟨(some 85), none, (.pick (.t 68) (.c (.t (.bool true))) (.t 84))⟩]) (.cond (.t 85) (.seq (.ops [⟨(some 2), none, (.mv (.c .nils))⟩, ⟨(some 3), none, (.mv (.c (.t (.bool false))))⟩]) .ret) .skip)) (.ops [⟨(some 86), none, (.mv (.t 4))⟩, ⟨(some 87), none, (.mv (.t 7))⟩, ⟨(some 88), none, (.lit none 1 1 [(.t (.str []))] [⟨0, (.t 87)⟩])⟩, ⟨(some 89), none, (.append 1 16 (.t 86) (.t 88))⟩, ⟨(some 4), none, (.mv (.t 89))⟩]))))))))))))) (.seq (.ops [⟨(some 90), none, (.mv (.t 4))⟩, ⟨(some 2), none, (.mv (.t 90))⟩, ⟨(some 3), none, (.mv (.c (.t (.bool true))))⟩]) .ret))))
theorem k_impl_cut : comp Try.prog 91 (Try.f20.body.getD .skip) = some c_impl_cut := by kernel_rfl

set_option maxHeartbeats 8000000 in
theorem impl_cut (line : List UInt8) (hs : line.length ≤ 1048576) (σ : Store) : ACalls Try.prog 20 [.t (.str line)] σ (CutR line σ) := by
  refine acalls_of Try.func20 (by decide +kernel) (code := Try.f20.body.getD .skip) (n := 91) (c := c_impl_cut) (rs := [(.tmp 2), (.tmp 3)]) rfl rfl k_impl_cut (by kernel_rfl) (by simp) (fun hσ => ?_)
  have c1 : 0 < 1 := by omega
  simp -implicitDefEqProofs only [c_impl_cut, S0, S1, S2, S3, S4, S5, S6, S7, S8, S9, S10, S11, S12, S13, S14, S15, S16, S17, opv, opvs, eget, env0, setD, lenStr, lenSl, isNilP, isNilS, putAt, if_true, if_false, reduceCtorEq, Nat.reduceLeDiff, Nat.reduceEqDiff, Nat.reduceSub, Nat.reduceMul, Nat.reduceAdd]
  refine loop_g [4, 5, 0] [0] (fun g : Gw => [(4, g.v), (5, .t (.int .i64 (g.i : Nat)))]) (fun g => g.s) (fun g => g.i ≤ line.length ∧ cutF (line.drop g.i) g.ws = cutF line [] ∧ OFl σ 1 (g.ws.map tStr) g.v g.s g.is ∧ g.ws.length ≤ 8) (fun g => line.length - g.i) ⟨0, [], .nils, σ, []⟩ (Nat.le_refl _) ⟨Nat.zero_le _, rfl, OFl.nils (by omega), Nat.zero_le _⟩ rfl rfl ?_
  rintro ⟨i, ws, v, s, is⟩ ⟨hk, hcut, hof, hws⟩
  simp only at hk hcut hof hws
  have hbl : σ.length ≤ s.length := hof.le
  have hone := hof.one
  have hlv : lenSl v = some ws.length := by rw [OFl.len hof (tStr_flat _), List.length_map]
  simp only [lenSl] at hlv
  simp -implicitDefEqProofs only [keep, S0, S1, S2, S3, S4, S5, S6, S7, S8, S9, S10, S11, S12, S13, S14, S15, S16, S17, opv, opvs, eget, env0, setD, lenStr, lenSl, isNilP, isNilS, putAt, if_true, if_false, reduceCtorEq, Nat.reduceLeDiff, Nat.reduceEqDiff, Nat.reduceSub, Nat.reduceMul, Nat.reduceAdd]
  refine cond_split (fun h1 => ?_) (fun h1 => ?_)
  · obtain ⟨x, hx, hlt⟩ := at_of h1
    have more := i64_succ (show i < 4611686018427387904 by omega)
    have hd := drop_of hx
    clear h1
    simp -implicitDefEqProofs only [hx, nat_nn, Nat.zero_le, S0, S1, S2, S3, S4, S5, S6, S7, S8, S9, S10, S11, S12, S13, S14, S15, S16, S17, opv, opvs, eget, env0, setD, lenStr, lenSl, isNilP, isNilS, putAt, if_true, if_false, reduceCtorEq, Nat.reduceLeDiff, Nat.reduceEqDiff, Nat.reduceSub, Nat.reduceMul, Nat.reduceAdd]
    refine cond_split (fun x32 => ?_) (fun x32 => ?_)
    · rw [hd, cut_sp x32] at hcut
      simp -implicitDefEqProofs only [more, S0, S1, S2, S3, S4, S5, S6, S7, S8, S9, S10, S11, S12, S13, S14, S15, S16, S17, opv, opvs, eget, env0, setD, lenStr, lenSl, isNilP, isNilS, putAt, if_true, if_false, reduceCtorEq, Nat.reduceLeDiff, Nat.reduceEqDiff, Nat.reduceSub, Nat.reduceMul, Nat.reduceAdd]
      exact lk_g ⟨i + 1, ws, v, s, is⟩ (by simp only; omega) ⟨by simp only; omega, hcut, hof, hws⟩ hbl rfl rfl
    simp -implicitDefEqProofs only [hx, nat_nn, Nat.zero_le, S0, S1, S2, S3, S4, S5, S6, S7, S8, S9, S10, S11, S12, S13, S14, S15, S16, S17, opv, opvs, eget, env0, setD, lenStr, lenSl, isNilP, isNilS, putAt, if_true, if_false, reduceCtorEq, Nat.reduceLeDiff, Nat.reduceEqDiff, Nat.reduceSub, Nat.reduceMul, Nat.reduceAdd]
    refine cond_split (fun x35 => ?_) (fun x35 => ?_)
    · rw [hd, cut_ha x32 x35] at hcut
      simp -implicitDefEqProofs only [S0, S1, S2, S3, S4, S5, S6, S7, S8, S9, S10, S11, S12, S13, S14, S15, S16, S17, opv, opvs, eget, env0, setD, lenStr, lenSl, isNilP, isNilS, putAt, if_true, if_false, reduceCtorEq, Nat.reduceLeDiff, Nat.reduceEqDiff, Nat.reduceSub, Nat.reduceMul, Nat.reduceAdd]
      exact fin_keep hbl (cut_good hof hcut.symm)
    simp -implicitDefEqProofs only [hx, nat_nn, Nat.zero_le, S0, S1, S2, S3, S4, S5, S6, S7, S8, S9, S10, S11, S12, S13, S14, S15, S16, S17, opv, opvs, eget, env0, setD, lenStr, lenSl, isNilP, isNilS, putAt, if_true, if_false, reduceCtorEq, Nat.reduceLeDiff, Nat.reduceEqDiff, Nat.reduceSub, Nat.reduceMul, Nat.reduceAdd]
    refine cond_split (fun x34 => ?_) (fun x34 => ?_)
    · have hle1 : i ≤ line.length := by omega
      simp -implicitDefEqProofs only [hx, nat_nn, Nat.zero_le, more, hle1, List.take_length, S0, S1, S2, S3, S4, S5, S6, S7, S8, S9, S10, S11, S12, S13, S14, S15, S16, S17, opv, opvs, eget, env0, setD, lenStr, lenSl, isNilP, isNilS, putAt, if_true, if_false, reduceCtorEq, Nat.reduceLeDiff, Nat.reduceEqDiff, Nat.reduceSub, Nat.reduceMul, Nat.reduceAdd]
      rw [hd]
      refine call_pure (impl_quoted x (line.drop (i + 1)) (by rw [List.length_drop]; omega) _) ?_
      rcases hq : qF (line.drop (i + 1)) [] 0 with _ | ⟨w, k⟩
      · have i0 : IntKind.i64.wrap (((i : Nat) : Int) + 0) = ((i : Nat) : Int) := IntWalk.i64_in _ (by omega)
        simp -implicitDefEqProofs only [qR, beq_self_eq_true, cond_t, cond_f, i0, S0, S1, S2, S3, S4, S5, S6, S7, S8, S9, S10, S11, S12, S13, S14, S15, S16, S17, opv, opvs, eget, env0, setD, lenStr, lenSl, isNilP, isNilS, putAt, if_true, if_false, reduceCtorEq, Nat.reduceLeDiff, Nat.reduceEqDiff, Nat.reduceSub, Nat.reduceMul, Nat.reduceAdd]
        refine fin_keep hbl (cut_bad hof ?_)
        rw [← hcut, hd]
        exact cut_none x32 x35 (word_q0 x34 hq)
      have hge := qF_ge _ _ (Nat.le_refl _) hq
      rw [List.length_drop] at hge
      obtain ⟨n, hnk⟩ : ∃ n, n = i + 1 + k := ⟨_, rfl⟩
      have k0 : ((((k : Nat) : Int) + 1) == 0) = false := by simp only [beq_eq_false_iff_ne, ne_eq]; omega
      have nk : IntKind.i64.wrap (((i : Nat) : Int) + (((k : Nat) : Int) + 1)) = ((n : Nat) : Int) := by rw [IntWalk.i64_in _ (by omega)]; omega
      simp -implicitDefEqProofs only [qR, k0, cond_t, cond_f, nk, S0, S1, S2, S3, S4, S5, S6, S7, S8, S9, S10, S11, S12, S13, S14, S15, S16, S17, opv, opvs, eget, env0, setD, lenStr, lenSl, isNilP, isNilS, putAt, if_true, if_false, reduceCtorEq, Nat.reduceLeDiff, Nat.reduceEqDiff, Nat.reduceSub, Nat.reduceMul, Nat.reduceAdd]
      have hword : wordAt (x :: line.drop (i + 1)) = some (w, n - i) := by rw [word_q x34 hq, show n - i = k + 1 by omega]
      have hn1 : n ≤ line.length := by omega
      have hin : i < n := by omega
      have hstep := cut_word (ws := ws) x32 x35 hword
      rw [← hd, List.drop_drop, show i + (n - i) = n by omega] at hstep
      rw [hstep] at hcut
      have badEnd : ∀ b : Bool, (endB (line.drop n) && decide (w.length ≤ 200) && decide (ws.length < 8)) = b → b = false → cutF line [] = none := by
        intro b hb hf
        rw [← hcut, hb, hf]
        rfl
      have goOn : ∀ b : Bool, (endB (line.drop n) && decide (w.length ≤ 200) && decide (ws.length < 8)) = b → b = true → cutF (line.drop n) (ws ++ [w]) = cutF line [] := by
        intro b hb hf
        rw [← hcut, hb, hf]
        rfl
      have hh : True := trivial
      rcases Nat.lt_or_ge n line.length with hnl | hnl
      · obtain ⟨y, hy⟩ : ∃ y, line[n]? = some y := ⟨line[n], by simp [hnl]⟩
        have dn : decide (((n : Nat) : Int) < ((line.length : Nat) : Int)) = true := by simp; omega
        have he := endB_at hy
        try simp -implicitDefEqProofs only [dn, cond_t, cond_f, hy, hone, hlv, nat_nn, Nat.zero_le, c1, S0, S1, S2, S3, S4, S5, S6, S7, S8, S9, S10, S11, S12, S13, S14, S15, S16, S17, opv, opvs, eget, env0, setD, lenStr, lenSl, isNilP, isNilS, putAt, if_true, if_false, reduceCtorEq, Nat.reduceLeDiff, Nat.reduceEqDiff, Nat.reduceSub, Nat.reduceMul, Nat.reduceAdd]
        repeat' (first
          | ((with_reducible refine cond_known (fun h => ?_) (fun h => ?_)) <;> (replace hh := And.intro h hh; clear h; simp -implicitDefEqProofs only [hh, dn, hy, cond_t, cond_f, hone, hlv, nat_nn, Nat.zero_le, c1, S0, S1, S2, S3, S4, S5, S6, S7, S8, S9, S10, S11, S12, S13, S14, S15, S16, S17, opv, opvs, eget, env0, setD, lenStr, lenSl, isNilP, isNilS, putAt, if_true, if_false, reduceCtorEq, Nat.reduceLeDiff, Nat.reduceEqDiff, Nat.reduceSub, Nat.reduceMul, Nat.reduceAdd]))
          | (refine fin_keep hbl ?_; exact cut_bad hof (badEnd _ rfl (by (try simp only [Known] at hh); grind)))
          | (refine lit_rows ?_; simp -implicitDefEqProofs only [hh, cond_t, cond_f, hone, hlv, nat_nn, Nat.zero_le, c1, S0, S1, S2, S3, S4, S5, S6, S7, S8, S9, S10, S11, S12, S13, S14, S15, S16, S17, opv, opvs, eget, env0, setD, lenStr, lenSl, isNilP, isNilS, putAt, if_true, if_false, reduceCtorEq, Nat.reduceLeDiff, Nat.reduceEqDiff, Nat.reduceSub, Nat.reduceMul, Nat.reduceAdd]; refine hof.app (r := [.str w]) (by simp [scalar]) (by rw [List.length_map]; simp only [maxBy]; omega) (by rw [List.length_map]; omega) ?_; intro v' s' is' hle hof'; have hone' := hof'.one; (try simp -implicitDefEqProofs only [one_cells hone', hone', S0, S1, S2, S3, S4, S5, S6, S7, S8, S9, S10, S11, S12, S13, S14, S15, S16, S17, opv, opvs, eget, env0, setD, lenStr, lenSl, isNilP, isNilS, putAt, if_true, if_false, reduceCtorEq, Nat.reduceLeDiff, Nat.reduceEqDiff, Nat.reduceSub, Nat.reduceMul, Nat.reduceAdd]); refine lk_g ⟨n, ws ++ [w], v', s', is'⟩ (by simp only; omega) ⟨hn1, goOn _ rfl (by (try simp only [Known] at hh); grind), by simp only [List.map_append, List.map_cons, List.map_nil]; exact hof', by (try simp only [Known] at hh); simp only [List.length_append, List.length_cons, List.length_nil]; grind⟩ (by omega) rfl rfl))
      · have hnn : n = line.length := by omega
        have dn : decide (((n : Nat) : Int) < ((line.length : Nat) : Int)) = false := by simp; omega
        have he : endB (line.drop n) = true := by rw [hnn, List.drop_length]; rfl
        try simp -implicitDefEqProofs only [dn, cond_t, cond_f, hone, hlv, nat_nn, Nat.zero_le, c1, S0, S1, S2, S3, S4, S5, S6, S7, S8, S9, S10, S11, S12, S13, S14, S15, S16, S17, opv, opvs, eget, env0, setD, lenStr, lenSl, isNilP, isNilS, putAt, if_true, if_false, reduceCtorEq, Nat.reduceLeDiff, Nat.reduceEqDiff, Nat.reduceSub, Nat.reduceMul, Nat.reduceAdd]
        repeat' (first
          | ((with_reducible refine cond_known (fun h => ?_) (fun h => ?_)) <;> (replace hh := And.intro h hh; clear h; simp -implicitDefEqProofs only [hh, dn, cond_t, cond_f, hone, hlv, nat_nn, Nat.zero_le, c1, S0, S1, S2, S3, S4, S5, S6, S7, S8, S9, S10, S11, S12, S13, S14, S15, S16, S17, opv, opvs, eget, env0, setD, lenStr, lenSl, isNilP, isNilS, putAt, if_true, if_false, reduceCtorEq, Nat.reduceLeDiff, Nat.reduceEqDiff, Nat.reduceSub, Nat.reduceMul, Nat.reduceAdd]))
          | (refine fin_keep hbl ?_; exact cut_bad hof (badEnd _ rfl (by (try simp only [Known] at hh); grind)))
          | (refine lit_rows ?_; simp -implicitDefEqProofs only [hh, cond_t, cond_f, hone, hlv, nat_nn, Nat.zero_le, c1, S0, S1, S2, S3, S4, S5, S6, S7, S8, S9, S10, S11, S12, S13, S14, S15, S16, S17, opv, opvs, eget, env0, setD, lenStr, lenSl, isNilP, isNilS, putAt, if_true, if_false, reduceCtorEq, Nat.reduceLeDiff, Nat.reduceEqDiff, Nat.reduceSub, Nat.reduceMul, Nat.reduceAdd]; refine hof.app (r := [.str w]) (by simp [scalar]) (by rw [List.length_map]; simp only [maxBy]; omega) (by rw [List.length_map]; omega) ?_; intro v' s' is' hle hof'; have hone' := hof'.one; (try simp -implicitDefEqProofs only [one_cells hone', hone', S0, S1, S2, S3, S4, S5, S6, S7, S8, S9, S10, S11, S12, S13, S14, S15, S16, S17, opv, opvs, eget, env0, setD, lenStr, lenSl, isNilP, isNilS, putAt, if_true, if_false, reduceCtorEq, Nat.reduceLeDiff, Nat.reduceEqDiff, Nat.reduceSub, Nat.reduceMul, Nat.reduceAdd]); refine lk_g ⟨n, ws ++ [w], v', s', is'⟩ (by simp only; omega) ⟨hn1, goOn _ rfl (by (try simp only [Known] at hh); grind), by simp only [List.map_append, List.map_cons, List.map_nil]; exact hof', by (try simp only [Known] at hh); simp only [List.length_append, List.length_cons, List.length_nil]; grind⟩ (by omega) rfl rfl))
    · simp -implicitDefEqProofs only [S0, S1, S2, S3, S4, S5, S6, S7, S8, S9, S10, S11, S12, S13, S14, S15, S16, S17, opv, opvs, eget, env0, setD, lenStr, lenSl, isNilP, isNilS, putAt, if_true, if_false, reduceCtorEq, Nat.reduceLeDiff, Nat.reduceEqDiff, Nat.reduceSub, Nat.reduceMul, Nat.reduceAdd]
      refine loop_p [8, 0, 4, 5] [0, 4, 5] (fun m : Nat => [(8, .t (.int .i64 (m : Nat)))]) (fun m => i + m ≤ line.length ∧ ((line.drop i).take m).all bareB = true) (fun m => line.length - (i + m)) 0 hbl ⟨by omega, by simp⟩ rfl ?_
      rintro m ⟨hn1, hall⟩
      obtain ⟨n, hn⟩ : ∃ n, n = i + m := ⟨_, rfl⟩
      have him : IntKind.i64.wrap (((i : Nat) : Int) + ((m : Nat) : Int)) = ((n : Nat) : Int) := by rw [IntWalk.i64_in _ (by omega)]; omega
      have done : (∀ c r, (line.drop i).drop m = c :: r → bareB c = false) → (line.drop i).takeWhile bareB = (line.drop i).take m := tw_of hall
      rw [List.drop_drop, ← hn] at done
      have morem := i64_succ (show m < 4611686018427387904 by omega)
      have hmn : m = n - i := by omega
      have wlen : ((line.take n).drop i).length = m := by rw [List.length_drop, List.length_take]; omega
      have wis : (line.drop i).take m = (line.take n).drop i := by rw [hmn]; exact (List.drop_take ..).symm
      have hin0 : i ≤ n := by omega
      have hnl1 : n ≤ line.length := by omega
      have after : (line.drop i).takeWhile bareB = (line.take n).drop i → ∀ b : Bool, ((((m : Nat) : Int) == 0) = b) → wordAt (x :: line.drop (i + 1)) = if b = true then none else some ((line.take n).drop i, n - i) := by
        rintro htw b rfl
        have := word_b (r := line.drop (i + 1)) (w := (line.take n).drop i) x34 (by rw [← hd]; exact htw)
        rw [this, wlen, ← hmn]
        by_cases hni : m = 0
        · have e : (((m : Nat) : Int) == 0) = true := by simp only [beq_iff_eq]; omega
          rw [if_pos hni, e, if_pos rfl]
        · have e : (((m : Nat) : Int) == 0) = false := by simp only [beq_eq_false_iff_ne, ne_eq]; omega
          rw [if_neg hni, e]
          rfl
      simp -implicitDefEqProofs only [keep, him, S0, S1, S2, S3, S4, S5, S6, S7, S8, S9, S10, S11, S12, S13, S14, S15, S16, S17, opv, opvs, eget, env0, setD, lenStr, lenSl, isNilP, isNilS, putAt, if_true, if_false, reduceCtorEq, Nat.reduceLeDiff, Nat.reduceEqDiff, Nat.reduceSub, Nat.reduceMul, Nat.reduceAdd]
      rcases Nat.lt_or_ge n line.length with hnl | hnl
      · obtain ⟨y, hy⟩ : ∃ y, line[n]? = some y := ⟨line[n], by simp [hnl]⟩
        have dn : decide (((n : Nat) : Int) < ((line.length : Nat) : Int)) = true := by simp; omega
        simp -implicitDefEqProofs only [dn, hy, him, nat_nn, Nat.zero_le, cond_t, cond_f, S0, S1, S2, S3, S4, S5, S6, S7, S8, S9, S10, S11, S12, S13, S14, S15, S16, S17, opv, opvs, eget, env0, setD, lenStr, lenSl, isNilP, isNilS, putAt, if_true, if_false, reduceCtorEq, Nat.reduceLeDiff, Nat.reduceEqDiff, Nat.reduceSub, Nat.reduceMul, Nat.reduceAdd]
        refine call_pure (impl_bareByte y _) ?_
        rcases hb : bareB y with _ | _
        rotate_left
        · simp -implicitDefEqProofs only [hb, cond_t, cond_f, morem, S0, S1, S2, S3, S4, S5, S6, S7, S8, S9, S10, S11, S12, S13, S14, S15, S16, S17, opv, opvs, eget, env0, setD, lenStr, lenSl, isNilP, isNilS, putAt, if_true, if_false, reduceCtorEq, Nat.reduceLeDiff, Nat.reduceEqDiff, Nat.reduceSub, Nat.reduceMul, Nat.reduceAdd]
          refine lk_p0 (m + 1) hbl (by simp) (by omega) ⟨by omega, ?_⟩ rfl
          rw [take_of (show (line.drop i)[m]? = some y by rw [List.getElem?_drop, ← hn]; exact hy), List.all_append, hall]
          simp [hb]
        have htw := done (fun c r e => by rw [drop_of hy] at e; cases e; exact hb)
        rw [wis] at htw
        have hword0 := after htw
        simp -implicitDefEqProofs only [hb, him, cond_t, cond_f, nat_nn, Nat.zero_le, hnl1, hin0, S0, S1, S2, S3, S4, S5, S6, S7, S8, S9, S10, S11, S12, S13, S14, S15, S16, S17, opv, opvs, eget, env0, setD, lenStr, lenSl, isNilP, isNilS, putAt, if_true, if_false, reduceCtorEq, Nat.reduceLeDiff, Nat.reduceEqDiff, Nat.reduceSub, Nat.reduceMul, Nat.reduceAdd]
        rcases e : (((m : Nat) : Int) == 0) with _ | _
        rotate_left
        · have hw0 := hword0 _ e
          simp -implicitDefEqProofs only [e, cond_t, cond_f, S0, S1, S2, S3, S4, S5, S6, S7, S8, S9, S10, S11, S12, S13, S14, S15, S16, S17, opv, opvs, eget, env0, setD, lenStr, lenSl, isNilP, isNilS, putAt, if_true, if_false, reduceCtorEq, Nat.reduceLeDiff, Nat.reduceEqDiff, Nat.reduceSub, Nat.reduceMul, Nat.reduceAdd]
          refine fin_keep hbl (cut_bad hof ?_)
          rw [← hcut, hd]
          exact cut_none x32 x35 hw0
        have hword := hword0 _ e
        rw [if_neg (by simp)] at hword
        have hin : i < n := by have : ¬ ((m : Int) = 0) := by simpa using e
                               omega
        have hn1 := hnl1
        simp -implicitDefEqProofs only [e, cond_t, cond_f, S0, S1, S2, S3, S4, S5, S6, S7, S8, S9, S10, S11, S12, S13, S14, S15, S16, S17, opv, opvs, eget, env0, setD, lenStr, lenSl, isNilP, isNilS, putAt, if_true, if_false, reduceCtorEq, Nat.reduceLeDiff, Nat.reduceEqDiff, Nat.reduceSub, Nat.reduceMul, Nat.reduceAdd]
        generalize (line.take n).drop i = w at *
        have hstep := cut_word (ws := ws) x32 x35 hword
        rw [← hd, List.drop_drop, show i + (n - i) = n by omega] at hstep
        rw [hstep] at hcut
        have badEnd : ∀ b : Bool, (endB (line.drop n) && decide (w.length ≤ 200) && decide (ws.length < 8)) = b → b = false → cutF line [] = none := by
          intro b hb hf
          rw [← hcut, hb, hf]
          rfl
        have goOn : ∀ b : Bool, (endB (line.drop n) && decide (w.length ≤ 200) && decide (ws.length < 8)) = b → b = true → cutF (line.drop n) (ws ++ [w]) = cutF line [] := by
          intro b hb hf
          rw [← hcut, hb, hf]
          rfl
        have hh : True := trivial
        rcases Nat.lt_or_ge n line.length with hnl | hnl
        · obtain ⟨y, hy⟩ : ∃ y, line[n]? = some y := ⟨line[n], by simp [hnl]⟩
          have dn : decide (((n : Nat) : Int) < ((line.length : Nat) : Int)) = true := by simp; omega
          have he := endB_at hy
          try simp -implicitDefEqProofs only [dn, cond_t, cond_f, hy, hone, hlv, nat_nn, Nat.zero_le, c1, S0, S1, S2, S3, S4, S5, S6, S7, S8, S9, S10, S11, S12, S13, S14, S15, S16, S17, opv, opvs, eget, env0, setD, lenStr, lenSl, isNilP, isNilS, putAt, if_true, if_false, reduceCtorEq, Nat.reduceLeDiff, Nat.reduceEqDiff, Nat.reduceSub, Nat.reduceMul, Nat.reduceAdd]
          repeat' (first
            | ((with_reducible refine cond_known (fun h => ?_) (fun h => ?_)) <;> (replace hh := And.intro h hh; clear h; simp -implicitDefEqProofs only [hh, dn, hy, cond_t, cond_f, hone, hlv, nat_nn, Nat.zero_le, c1, S0, S1, S2, S3, S4, S5, S6, S7, S8, S9, S10, S11, S12, S13, S14, S15, S16, S17, opv, opvs, eget, env0, setD, lenStr, lenSl, isNilP, isNilS, putAt, if_true, if_false, reduceCtorEq, Nat.reduceLeDiff, Nat.reduceEqDiff, Nat.reduceSub, Nat.reduceMul, Nat.reduceAdd]))
            | (refine fin_keep hbl ?_; exact cut_bad hof (badEnd _ rfl (by (try simp only [Known] at hh); grind)))
            | (refine lit_rows ?_; simp -implicitDefEqProofs only [hh, cond_t, cond_f, hone, hlv, nat_nn, Nat.zero_le, c1, S0, S1, S2, S3, S4, S5, S6, S7, S8, S9, S10, S11, S12, S13, S14, S15, S16, S17, opv, opvs, eget, env0, setD, lenStr, lenSl, isNilP, isNilS, putAt, if_true, if_false, reduceCtorEq, Nat.reduceLeDiff, Nat.reduceEqDiff, Nat.reduceSub, Nat.reduceMul, Nat.reduceAdd]; refine hof.app (r := [.str w]) (by simp [scalar]) (by rw [List.length_map]; simp only [maxBy]; omega) (by rw [List.length_map]; omega) ?_; intro v' s' is' hle hof'; have hone' := hof'.one; (try simp -implicitDefEqProofs only [one_cells hone', hone', S0, S1, S2, S3, S4, S5, S6, S7, S8, S9, S10, S11, S12, S13, S14, S15, S16, S17, opv, opvs, eget, env0, setD, lenStr, lenSl, isNilP, isNilS, putAt, if_true, if_false, reduceCtorEq, Nat.reduceLeDiff, Nat.reduceEqDiff, Nat.reduceSub, Nat.reduceMul, Nat.reduceAdd]); refine lk_g ⟨n, ws ++ [w], v', s', is'⟩ (by simp only; omega) ⟨hn1, goOn _ rfl (by (try simp only [Known] at hh); grind), by simp only [List.map_append, List.map_cons, List.map_nil]; exact hof', by (try simp only [Known] at hh); simp only [List.length_append, List.length_cons, List.length_nil]; grind⟩ (by omega) rfl rfl))
        · have hnn : n = line.length := by omega
          have dn : decide (((n : Nat) : Int) < ((line.length : Nat) : Int)) = false := by simp; omega
          have he : endB (line.drop n) = true := by rw [hnn, List.drop_length]; rfl
          try simp -implicitDefEqProofs only [dn, cond_t, cond_f, hone, hlv, nat_nn, Nat.zero_le, c1, S0, S1, S2, S3, S4, S5, S6, S7, S8, S9, S10, S11, S12, S13, S14, S15, S16, S17, opv, opvs, eget, env0, setD, lenStr, lenSl, isNilP, isNilS, putAt, if_true, if_false, reduceCtorEq, Nat.reduceLeDiff, Nat.reduceEqDiff, Nat.reduceSub, Nat.reduceMul, Nat.reduceAdd]
          repeat' (first
            | ((with_reducible refine cond_known (fun h => ?_) (fun h => ?_)) <;> (replace hh := And.intro h hh; clear h; simp -implicitDefEqProofs only [hh, dn, cond_t, cond_f, hone, hlv, nat_nn, Nat.zero_le, c1, S0, S1, S2, S3, S4, S5, S6, S7, S8, S9, S10, S11, S12, S13, S14, S15, S16, S17, opv, opvs, eget, env0, setD, lenStr, lenSl, isNilP, isNilS, putAt, if_true, if_false, reduceCtorEq, Nat.reduceLeDiff, Nat.reduceEqDiff, Nat.reduceSub, Nat.reduceMul, Nat.reduceAdd]))
            | (refine fin_keep hbl ?_; exact cut_bad hof (badEnd _ rfl (by (try simp only [Known] at hh); grind)))
            | (refine lit_rows ?_; simp -implicitDefEqProofs only [hh, cond_t, cond_f, hone, hlv, nat_nn, Nat.zero_le, c1, S0, S1, S2, S3, S4, S5, S6, S7, S8, S9, S10, S11, S12, S13, S14, S15, S16, S17, opv, opvs, eget, env0, setD, lenStr, lenSl, isNilP, isNilS, putAt, if_true, if_false, reduceCtorEq, Nat.reduceLeDiff, Nat.reduceEqDiff, Nat.reduceSub, Nat.reduceMul, Nat.reduceAdd]; refine hof.app (r := [.str w]) (by simp [scalar]) (by rw [List.length_map]; simp only [maxBy]; omega) (by rw [List.length_map]; omega) ?_; intro v' s' is' hle hof'; have hone' := hof'.one; (try simp -implicitDefEqProofs only [one_cells hone', hone', S0, S1, S2, S3, S4, S5, S6, S7, S8, S9, S10, S11, S12, S13, S14, S15, S16, S17, opv, opvs, eget, env0, setD, lenStr, lenSl, isNilP, isNilS, putAt, if_true, if_false, reduceCtorEq, Nat.reduceLeDiff, Nat.reduceEqDiff, Nat.reduceSub, Nat.reduceMul, Nat.reduceAdd]); refine lk_g ⟨n, ws ++ [w], v', s', is'⟩ (by simp only; omega) ⟨hn1, goOn _ rfl (by (try simp only [Known] at hh); grind), by simp only [List.map_append, List.map_cons, List.map_nil]; exact hof', by (try simp only [Known] at hh); simp only [List.length_append, List.length_cons, List.length_nil]; grind⟩ (by omega) rfl rfl))
      · have hnn : n = line.length := by omega
        have dn : decide (((n : Nat) : Int) < ((line.length : Nat) : Int)) = false := by simp; omega
        have htw := done (fun c r e => by rw [hnn, List.drop_length] at e; cases e)
        rw [wis] at htw
        have hword0 := after htw
        simp -implicitDefEqProofs only [dn, him, nat_nn, Nat.zero_le, cond_t, cond_f, hnl1, hin0, S0, S1, S2, S3, S4, S5, S6, S7, S8, S9, S10, S11, S12, S13, S14, S15, S16, S17, opv, opvs, eget, env0, setD, lenStr, lenSl, isNilP, isNilS, putAt, if_true, if_false, reduceCtorEq, Nat.reduceLeDiff, Nat.reduceEqDiff, Nat.reduceSub, Nat.reduceMul, Nat.reduceAdd]
        rcases e : (((m : Nat) : Int) == 0) with _ | _
        rotate_left
        · have hw0 := hword0 _ e
          simp -implicitDefEqProofs only [e, cond_t, cond_f, S0, S1, S2, S3, S4, S5, S6, S7, S8, S9, S10, S11, S12, S13, S14, S15, S16, S17, opv, opvs, eget, env0, setD, lenStr, lenSl, isNilP, isNilS, putAt, if_true, if_false, reduceCtorEq, Nat.reduceLeDiff, Nat.reduceEqDiff, Nat.reduceSub, Nat.reduceMul, Nat.reduceAdd]
          refine fin_keep hbl (cut_bad hof ?_)
          rw [← hcut, hd]
          exact cut_none x32 x35 hw0
        have hword := hword0 _ e
        rw [if_neg (by simp)] at hword
        have hin : i < n := by have : ¬ ((m : Int) = 0) := by simpa using e
                               omega
        have hn1 := hnl1
        simp -implicitDefEqProofs only [e, cond_t, cond_f, S0, S1, S2, S3, S4, S5, S6, S7, S8, S9, S10, S11, S12, S13, S14, S15, S16, S17, opv, opvs, eget, env0, setD, lenStr, lenSl, isNilP, isNilS, putAt, if_true, if_false, reduceCtorEq, Nat.reduceLeDiff, Nat.reduceEqDiff, Nat.reduceSub, Nat.reduceMul, Nat.reduceAdd]
        generalize (line.take n).drop i = w at *
        have hstep := cut_word (ws := ws) x32 x35 hword
        rw [← hd, List.drop_drop, show i + (n - i) = n by omega] at hstep
        rw [hstep] at hcut
        have badEnd : ∀ b : Bool, (endB (line.drop n) && decide (w.length ≤ 200) && decide (ws.length < 8)) = b → b = false → cutF line [] = none := by
          intro b hb hf
          rw [← hcut, hb, hf]
          rfl
        have goOn : ∀ b : Bool, (endB (line.drop n) && decide (w.length ≤ 200) && decide (ws.length < 8)) = b → b = true → cutF (line.drop n) (ws ++ [w]) = cutF line [] := by
          intro b hb hf
          rw [← hcut, hb, hf]
          rfl
        have hh : True := trivial
        rcases Nat.lt_or_ge n line.length with hnl | hnl
        · obtain ⟨y, hy⟩ : ∃ y, line[n]? = some y := ⟨line[n], by simp [hnl]⟩
          have dn : decide (((n : Nat) : Int) < ((line.length : Nat) : Int)) = true := by simp; omega
          have he := endB_at hy
          try simp -implicitDefEqProofs only [dn, cond_t, cond_f, hy, hone, hlv, nat_nn, Nat.zero_le, c1, S0, S1, S2, S3, S4, S5, S6, S7, S8, S9, S10, S11, S12, S13, S14, S15, S16, S17, opv, opvs, eget, env0, setD, lenStr, lenSl, isNilP, isNilS, putAt, if_true, if_false, reduceCtorEq, Nat.reduceLeDiff, Nat.reduceEqDiff, Nat.reduceSub, Nat.reduceMul, Nat.reduceAdd]
          repeat' (first
            | ((with_reducible refine cond_known (fun h => ?_) (fun h => ?_)) <;> (replace hh := And.intro h hh; clear h; simp -implicitDefEqProofs only [hh, dn, hy, cond_t, cond_f, hone, hlv, nat_nn, Nat.zero_le, c1, S0, S1, S2, S3, S4, S5, S6, S7, S8, S9, S10, S11, S12, S13, S14, S15, S16, S17, opv, opvs, eget, env0, setD, lenStr, lenSl, isNilP, isNilS, putAt, if_true, if_false, reduceCtorEq, Nat.reduceLeDiff, Nat.reduceEqDiff, Nat.reduceSub, Nat.reduceMul, Nat.reduceAdd]))
            | (refine fin_keep hbl ?_; exact cut_bad hof (badEnd _ rfl (by (try simp only [Known] at hh); grind)))
            | (refine lit_rows ?_; simp -implicitDefEqProofs only [hh, cond_t, cond_f, hone, hlv, nat_nn, Nat.zero_le, c1, S0, S1, S2, S3, S4, S5, S6, S7, S8, S9, S10, S11, S12, S13, S14, S15, S16, S17, opv, opvs, eget, env0, setD, lenStr, lenSl, isNilP, isNilS, putAt, if_true, if_false, reduceCtorEq, Nat.reduceLeDiff, Nat.reduceEqDiff, Nat.reduceSub, Nat.reduceMul, Nat.reduceAdd]; refine hof.app (r := [.str w]) (by simp [scalar]) (by rw [List.length_map]; simp only [maxBy]; omega) (by rw [List.length_map]; omega) ?_; intro v' s' is' hle hof'; have hone' := hof'.one; (try simp -implicitDefEqProofs only [one_cells hone', hone', S0, S1, S2, S3, S4, S5, S6, S7, S8, S9, S10, S11, S12, S13, S14, S15, S16, S17, opv, opvs, eget, env0, setD, lenStr, lenSl, isNilP, isNilS, putAt, if_true, if_false, reduceCtorEq, Nat.reduceLeDiff, Nat.reduceEqDiff, Nat.reduceSub, Nat.reduceMul, Nat.reduceAdd]); refine lk_g ⟨n, ws ++ [w], v', s', is'⟩ (by simp only; omega) ⟨hn1, goOn _ rfl (by (try simp only [Known] at hh); grind), by simp only [List.map_append, List.map_cons, List.map_nil]; exact hof', by (try simp only [Known] at hh); simp only [List.length_append, List.length_cons, List.length_nil]; grind⟩ (by omega) rfl rfl))
        · have hnn : n = line.length := by omega
          have dn : decide (((n : Nat) : Int) < ((line.length : Nat) : Int)) = false := by simp; omega
          have he : endB (line.drop n) = true := by rw [hnn, List.drop_length]; rfl
          try simp -implicitDefEqProofs only [dn, cond_t, cond_f, hone, hlv, nat_nn, Nat.zero_le, c1, S0, S1, S2, S3, S4, S5, S6, S7, S8, S9, S10, S11, S12, S13, S14, S15, S16, S17, opv, opvs, eget, env0, setD, lenStr, lenSl, isNilP, isNilS, putAt, if_true, if_false, reduceCtorEq, Nat.reduceLeDiff, Nat.reduceEqDiff, Nat.reduceSub, Nat.reduceMul, Nat.reduceAdd]
          repeat' (first
            | ((with_reducible refine cond_known (fun h => ?_) (fun h => ?_)) <;> (replace hh := And.intro h hh; clear h; simp -implicitDefEqProofs only [hh, dn, cond_t, cond_f, hone, hlv, nat_nn, Nat.zero_le, c1, S0, S1, S2, S3, S4, S5, S6, S7, S8, S9, S10, S11, S12, S13, S14, S15, S16, S17, opv, opvs, eget, env0, setD, lenStr, lenSl, isNilP, isNilS, putAt, if_true, if_false, reduceCtorEq, Nat.reduceLeDiff, Nat.reduceEqDiff, Nat.reduceSub, Nat.reduceMul, Nat.reduceAdd]))
            | (refine fin_keep hbl ?_; exact cut_bad hof (badEnd _ rfl (by (try simp only [Known] at hh); grind)))
            | (refine lit_rows ?_; simp -implicitDefEqProofs only [hh, cond_t, cond_f, hone, hlv, nat_nn, Nat.zero_le, c1, S0, S1, S2, S3, S4, S5, S6, S7, S8, S9, S10, S11, S12, S13, S14, S15, S16, S17, opv, opvs, eget, env0, setD, lenStr, lenSl, isNilP, isNilS, putAt, if_true, if_false, reduceCtorEq, Nat.reduceLeDiff, Nat.reduceEqDiff, Nat.reduceSub, Nat.reduceMul, Nat.reduceAdd]; refine hof.app (r := [.str w]) (by simp [scalar]) (by rw [List.length_map]; simp only [maxBy]; omega) (by rw [List.length_map]; omega) ?_; intro v' s' is' hle hof'; have hone' := hof'.one; (try simp -implicitDefEqProofs only [one_cells hone', hone', S0, S1, S2, S3, S4, S5, S6, S7, S8, S9, S10, S11, S12, S13, S14, S15, S16, S17, opv, opvs, eget, env0, setD, lenStr, lenSl, isNilP, isNilS, putAt, if_true, if_false, reduceCtorEq, Nat.reduceLeDiff, Nat.reduceEqDiff, Nat.reduceSub, Nat.reduceMul, Nat.reduceAdd]); refine lk_g ⟨n, ws ++ [w], v', s', is'⟩ (by simp only; omega) ⟨hn1, goOn _ rfl (by (try simp only [Known] at hh); grind), by simp only [List.map_append, List.map_cons, List.map_nil]; exact hof', by (try simp only [Known] at hh); simp only [List.length_append, List.length_cons, List.length_nil]; grind⟩ (by omega) rfl rfl))
  · have hkk := end_of h1 hk
    subst hkk
    rw [List.drop_length, cut_nil] at hcut
    simp -implicitDefEqProofs only [S0, S1, S2, S3, S4, S5, S6, S7, S8, S9, S10, S11, S12, S13, S14, S15, S16, S17, opv, opvs, eget, env0, setD, lenStr, lenSl, isNilP, isNilS, putAt, if_true, if_false, reduceCtorEq, Nat.reduceLeDiff, Nat.reduceEqDiff, Nat.reduceSub, Nat.reduceMul, Nat.reduceAdd]
    exact fin_keep hbl (cut_good hof hcut.symm)

def c_impl_SheetWords : C := (.seq (.ops [⟨(some 2), none, (.new [.nils, (.t (.bool false))])⟩]) (.seq (.ops [⟨(some 6), none, (.mv (.t 0))⟩, ⟨(some 7), none, (.call (.c (.fn (.func 20) [])) [(.t 6)])⟩, ⟨(some 5), none, (.mv (.t 7))⟩, ⟨(some 8), none, (.extract (.t 5) 0)⟩, ⟨(some 9), none, (.extract (.t 5) 1)⟩, ⟨(some 3), none, (.mv (.t 8))⟩, ⟨(some 4), none, (.mv (.t 9))⟩]) (.seq (.ops [⟨(some 10), none, (.mv (.t 3))⟩, ⟨(some 11), none, (.mv (.t 4))⟩, ⟨(some 12), none, (.un .not (.t 11))⟩, ⟨(some 13), none, (.build [.nils, (.t (.bool false))] [⟨0, ⟨1, (.t 10)⟩⟩, ⟨1, ⟨1, (.t 12)⟩⟩])⟩, ⟨none, none, (.store 2 (.t 2) (.t 13))⟩]) .ret)))
theorem k_impl_SheetWords : comp Try.prog 14 (Try.f9.body.getD .skip) = some c_impl_SheetWords := by kernel_rfl

theorem impl_SheetWords0 (line : List UInt8) (hs : line.length ≤ 1048576) (σ : Store) : ACalls Try.prog 9 [.t (.str line)] σ (ToLR [tStrs (cutW line), .bool (cutBad line)] σ) := by
  refine acalls_of Try.func9 (by decide +kernel) (code := Try.f9.body.getD .skip) (n := 14) (c := c_impl_SheetWords) (rs := [(.cell 2 (some 2))]) rfl rfl k_impl_SheetWords (by kernel_rfl) (by simp) (fun hσ => ?_)
  simp -implicitDefEqProofs only [c_impl_SheetWords, S0, S1, S2, S3, S4, S5, S6, S7, S8, S9, S10, S11, S12, S13, S14, S15, S16, S17, opv, opvs, eget, env0, setD, lenStr, lenSl, isNilP, isNilS, putAt, if_true, if_false, reduceCtorEq, Nat.reduceLeDiff, Nat.reduceEqDiff, Nat.reduceSub, Nat.reduceMul, Nat.reduceAdd]
  refine call_by (by rw [List.append_nil]; exact impl_cut line hs _) ?_
  rintro r σ' ⟨v, τ, is, rfl, rfl, ho, hw⟩
  have e := ho.one
  simp -implicitDefEqProofs only [one_cells e, e, Bool.not_not, S0, S1, S2, S3, S4, S5, S6, S7, S8, S9, S10, S11, S12, S13, S14, S15, S16, S17, opv, opvs, eget, env0, setD, lenStr, lenSl, isNilP, isNilS, putAt, if_true, if_false, reduceCtorEq, Nat.reduceLeDiff, Nat.reduceEqDiff, Nat.reduceSub, Nat.reduceMul, Nat.reduceAdd]
  refine fin_keep (by simp) ⟨_, _, is ++ [], rfl, rfl, OwnL.lst ?_ (OwnL.bool OwnL.nil0), ?_⟩
  · refine ho.frame fun i hi => ?_
    have := hw.2 i hi
    simp only [List.length_append, List.length_cons, List.length_nil] at this
    rw [List.getElem?_append_right (by omega), List.append_assoc, List.getElem?_append_right (by omega)]
    obtain ⟨d, hd⟩ : ∃ d, i - σ.length = d + 1 := ⟨i - σ.length - 1, by omega⟩
    rw [hd]
    rfl
  · rw [List.append_nil]
    exact hw.mono (by simp) (by simp)

end Go.Proofs.Ytkppdeobinefbaa.W

end


section
open Go Go.Ab
set_option maxHeartbeats 2000000
namespace Go.Proofs.Ytkppdeobinefbaa.W
def resT_SheetWords (line : List UInt8) : List T := [tStrs (cutW line), .bool (cutBad line)]
theorem specF_SheetWords (line : List UInt8) (hs : line.length ≤ 1048576) (σ : Store) : ACalls Try.prog 8 [.t (.str line)] σ fun rr σ' => rr = .agg ((resT_SheetWords line).map .t) ∧ σ' = σ := acalls_frzTL (spec_SheetWords0 line hs σ)
theorem implF_SheetWords (line : List UInt8) (hs : line.length ≤ 1048576) (σ : Store) : ACalls Try.prog 9 [.t (.str line)] σ fun rr σ' => rr = .agg ((resT_SheetWords line).map .t) ∧ σ' = σ := acalls_frzTL (impl_SheetWords0 line hs σ)
theorem implO_SheetWords (line : List UInt8) (hs : line.length ≤ 1048576) (σ : Store) : ACalls Try.prog 9 [.t (.str line)] σ (ToLR (resT_SheetWords line) σ) := impl_SheetWords0 line hs σ
theorem cutW_small (line : List UInt8) : (cutW line).length ≤ 8 ∧ ∀ w ∈ cutW line, w.length ≤ 200 := by
  unfold cutW
  rcases h : cutF line [] with _ | l
  · simp
  · exact cutF_small _ _ (Nat.le_refl _) (by simp) (by simp) h
theorem is_strs {l : List (List UInt8)} (hl : l.length ≤ 1048576) (h : ∀ w ∈ l, w.length ≤ 1048576) : T.is (.sl 1 [.str]) (tStrs l) := by
  simp only [T.is]
  refine ⟨_, rfl, by rw [List.length_map]; simp only [maxLen]; omega, fun r hr => ?_⟩
  obtain ⟨n, hn, rfl⟩ := List.mem_map.1 hr
  simp only [tStr, isL_cons, isL_nil, is_str]
  exact ⟨_, _, rfl, ⟨n, rfl, by have := h n hn; simp only [maxLen]; omega⟩, rfl⟩
theorem size_strs {m : Nat} : ∀ {l : List (List UInt8)}, (∀ w ∈ l, w.length ≤ m) → (tStrs l).size ≤ l.length + m * l.length := by
  intro l h
  rw [tStrs, size_lst, List.length_map]
  suffices g : T.sizeR (l.map tStr) ≤ m * l.length by omega
  induction l with
  | nil => simp only [List.map_nil, sizeR_nil]; omega
  | cons a l ih =>
    have h1 := ih fun w hw => h w (by simp [hw])
    have h2 := h a (by simp)
    simp only [List.map_cons, sizeR_cons, tStr, sizeL_cons, sizeL_nil, size_str, List.length_cons, Nat.mul_add, Nat.mul_one]
    omega
theorem res_SheetWords (line : List UInt8) (o : line.length ≤ 1048576) : T.isL shSheetCut (resT_SheetWords line) ∧ T.sizeL (resT_SheetWords line) ≤ 8388608 := by
  obtain ⟨h1, h2⟩ := cutW_small line
  refine ⟨?_, ?_⟩
  · simp only [resT_SheetWords, shSheetCut, isL_cons, isL_nil, is_bool]
    exact ⟨_, _, rfl, is_strs (by omega) (fun w hw => Nat.le_trans (h2 w hw) (by omega)), _, _, rfl, ⟨_, rfl⟩, rfl⟩
  · have := size_strs h2
    simp only [resT_SheetWords, sizeL_cons, sizeL_nil, size_bool]
    omega
end Go.Proofs.Ytkppdeobinefbaa.W

end
