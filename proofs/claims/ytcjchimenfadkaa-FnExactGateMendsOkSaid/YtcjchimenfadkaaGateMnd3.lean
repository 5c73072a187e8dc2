/- What the mends of a field read. Conditions: none. -/
/- The reference's row of fields. Conditions: none. -/
import Derived.Test.YtcjchimenfadkaaGateMnd1
import Derived.Test.YtcjchimenfadkaaAb4
import Derived.Test.YtcjchimenfadkaaMendP
set_option linter.unusedSimpArgs false
set_option linter.unusedVariables false
set_option linter.defProp false

section
open Go Go.Ab
set_option maxHeartbeats 2000000
namespace Go.Proofs.Ytcjchimenfadkaa.W
def rd1 (k x : List UInt8) (m : GateMend) : List (List UInt8) := if (m.Kind == k && m.Field == x) = true then (if (m.When == []) = true then [] else [m.When]) ++ (if (m.From == []) = true then [] else [m.From]) else []
def readsOf (k : List UInt8) (ms : List GateMend) (x : List UInt8) : List (List UInt8) := ms.flatMap (rd1 k x)
theorem rd1_len (k x : List UInt8) (m : GateMend) : (rd1 k x m).length ≤ 2 := by
  rw [rd1]
  split
  · rw [List.length_append]
    split <;> split <;> simp
  · simp
theorem reads_len (k x : List UInt8) : ∀ ms : List GateMend, (readsOf k ms x).length ≤ 2 * ms.length
  | [] => by simp [readsOf]
  | m :: ms => by
    have := reads_len k x ms
    have := rd1_len k x m
    simp only [readsOf, List.flatMap_cons, List.length_append, List.length_cons] at *
    omega
theorem reads_step (k x : List UInt8) {ms : List GateMend} {i : Nat} {m : GateMend} (h : ms[i]? = some m) : readsOf k (ms.take (i + 1)) x = readsOf k (ms.take i) x ++ rd1 k x m := by
  rw [take_of h, readsOf, List.flatMap_append]; simp [readsOf]
def rdyM (k f : List UInt8) (row : List (List UInt8)) (m : GateMend) : Bool := !(m.Kind == k && m.Field == f && ((!(m.When == []) && !hasW row m.When) || (!(m.From == []) && !hasW row m.From)))
theorem hasW_mem {l : List (List UInt8)} {v : List UInt8} : hasW l v = true ↔ v ∈ l := by
  rw [hasW, Bool.not_eq_true', List.all_eq_false]
  constructor
  · rintro ⟨x, hx, h⟩
    have : x = v := by simpa [neT] using h
    exact this ▸ hx
  · intro h
    exact ⟨v, h, by simp [neT]⟩
theorem rdy_iff {k f : List UInt8} {row : List (List UInt8)} {ms : List GateMend} : ms.all (rdyM k f row) = true ↔ ∀ y ∈ readsOf k ms f, y ∈ row := by
  rw [List.all_eq_true]
  constructor
  · intro h y hy
    obtain ⟨m, hm, hy⟩ := List.mem_flatMap.1 hy
    have h1 := h m hm
    rw [← hasW_mem]
    rw [rd1] at hy
    rw [rdyM] at h1
    split at hy
    · rename_i hc
      rw [hc, Bool.true_and, Bool.not_eq_true', Bool.or_eq_false_iff] at h1
      rcases List.mem_append.1 hy with hy | hy
      · split at hy
        · cases hy
        · rename_i hw
          obtain rfl : y = m.When := by simpa using hy
          have := h1.1
          simp only [Bool.not_eq_true] at hw
          rw [hw] at this
          simpa using this
      · split at hy
        · cases hy
        · rename_i hw
          obtain rfl : y = m.From := by simpa using hy
          have := h1.2
          simp only [Bool.not_eq_true] at hw
          rw [hw] at this
          simpa using this
    · cases hy
  · intro h m hm
    rw [rdyM, Bool.not_eq_true', Bool.and_eq_false_iff]
    by_cases hc : (m.Kind == k && m.Field == f) = true
    · right
      have hin : ∀ y ∈ rd1 k f m, hasW row y = true := fun y hy => hasW_mem.2 (h y (List.mem_flatMap.2 ⟨m, hm, hy⟩))
      rw [rd1, if_pos hc] at hin
      rw [Bool.or_eq_false_iff]
      constructor
      · by_cases hw : (m.When == []) = true
        · rw [hw]; rfl
        · rw [hin m.When (by simp [hw]), Bool.not_true, Bool.and_false]
      · by_cases hw : (m.From == []) = true
        · rw [hw]; rfl
        · rw [hin m.From (by simp [hw]), Bool.not_true, Bool.and_false]
    · left; simpa using hc
theorem OFl.appB {s0 s : Store} {n bys : Nat} {rows : List (List T)} {r : List T} {v : V} {is : List Nat} {K : Tok → V → Store → Prop} (h : OFl s0 n rows v s is) (hr : ∀ t ∈ r, scalar t = true)
    (hb : (rows.length + 1) * bys ≤ maxBy) (hm : rows.length + 1 ≤ 9223372036854775807) (hk : ∀ v' s' is', s.length ≤ s'.length → OFl s0 n (rows ++ [r]) v' s' is' → Kb is s s' → K .go v' s') : evAppend n bys s [r.map .t] v K := by
  refine app_flat h.own h.wi.1 hr hb hm fun v' s' is' h1 h2 h3 h4 h5 => hk v' s' is' h1 ⟨?_, h.kp.kb h.le h3 h.wi, h4, ?_⟩ h3
  · have := h.le; omega
  · rcases h5 with ⟨rfl, hl⟩ | ⟨rfl, rfl, hl⟩
    · exact h.wi.mono (Nat.le_refl _) (by omega)
    · exact (Wi.cons (Wi.nil (a := s.length + 1) (b := s.length + 1)) (by omega) (by omega) (by omega)).mono h.le (by omega)
structure Gr where
  k : Nat
  v : V
  s : Store
  is : List Nat

def c_impl_rowOf_1 : C := (.seq (.ops [⟨(some 4), none, (.mv (.c .nils))⟩]) (.seq (.ops [⟨(some 5), none, (.mv (.c .nils))⟩]) (.seq (.seq (.ops [⟨(some 8), none, (.load none (.t 1))⟩, ⟨(some 9), none, (.len false (.t 8))⟩, ⟨(some 10), none, (.mv (.c (.t (.int .i64 0))))⟩]) (.block 0 (.loop (.seq (.ops [⟨(some 11), none, (.bin .lss (.t 10) (.t 9))⟩]) (.seq (.cond (.t 11) .skip (.exit 0)) (.seq (.block 1 (.seq (.ops [⟨(some 12), none, (.indexAddr 6 (.t 8) (.t 10))⟩, ⟨(some 13), none, (.load (some 6) (.t 12))⟩, ⟨(some 7), none, (.new [(.t (.str [])), (.t (.str [])), (.t (.str [])), (.t (.str [])), (.t (.str [])), (.t (.str []))])⟩, ⟨none, none, (.store 6 (.t 7) (.t 13))⟩]) (.seq (.seq (.ops [⟨(some 14), none, (.fieldAddr 0 (.t 7))⟩, ⟨(some 15), none, (.load none (.t 14))⟩, ⟨(some 16), none, (.fieldAddr 0 (.t 2))⟩, ⟨(some 17), none, (.load none (.t 16))⟩, ⟨(some 18), none, (.bin .neq (.t 15) (.t 17))⟩, ⟨(some 19), none, (.mv (.t 18))⟩, ⟨(some 20), (some ⟨19, false⟩), (.fieldAddr 1 (.t 7))⟩, ⟨(some 21), (some ⟨19, false⟩), (.load none (.t 20))⟩, ⟨(some 22), (some ⟨19, false⟩), (.mv (.t 0))⟩, ⟨(some 23), (some ⟨19, false⟩), (.bin .neq (.t 21) (.t 22))⟩, ⟨(some 24), none, (.pick (.t 19) (.c (.t (.bool true))) (.t 23))⟩]) (.cond (.t 24) (.exit 1) .skip)) (.seq (.seq (.ops [⟨(some 25), none, (.fieldAddr 2 (.t 7))⟩, ⟨(some 26), none, (.load none (.t 25))⟩, ⟨(some 27), none, (.bin .neq (.t 26) (.c (.t (.str []))))⟩]) (.cond (.t 27) (.ops [⟨(some 28), none, (.mv (.t 5))⟩, ⟨(some 29), none, (.fieldAddr 2 (.t 7))⟩, ⟨(some 30), none, (.load none (.t 29))⟩, ⟨(some 31), none, (.lit none 1 1 [(.t (.str []))] [⟨0, (.t 30)⟩])⟩, ⟨(some 32), none, (.append 1 16 (.t 28) (.t 31))⟩, ⟨(some 5), none, (.mv (.t 32))⟩]) .skip)) (.seq (.ops [⟨(some 33), none, (.fieldAddr 5 (.t 7))⟩, ⟨(some 34), none, (.load none (.t 33))⟩, ⟨(some 35), none, (.bin .neq (.t 34) (.c (.t (.str []))))⟩]) (.cond (.t 35) (.ops [⟨(some 36), none, (.mv (.t 5))⟩, ⟨(some 37), none, (.fieldAddr 5 (.t 7))⟩, ⟨(some 38), none, (.load none (.t 37))⟩, ⟨(some 39), none, (.lit none 1 1 [(.t (.str []))] [⟨0, (.t 38)⟩])⟩, ⟨(some 40), none, (.append 1 16 (.t 36) (.t 39))⟩, ⟨(some 5), none, (.mv (.t 40))⟩]) .skip)))))) (.ops [⟨(some 41), none, (.bin .add (.t 10) (.c (.t (.int .i64 1))))⟩, ⟨(some 10), none, (.mv (.t 41))⟩]))))))) (.seq (.ops [⟨(some 42), none, (.mv (.t 5))⟩, ⟨(some 4), none, (.mv (.t 42))⟩]) .ret))))
theorem k_impl_rowOf_1 : comp Try.prog 43 (Try.f41.body.getD .skip) = some c_impl_rowOf_1 := by kernel_rfl

set_option maxHeartbeats 8000000 in
theorem impl_reads0 (ms : List GateMend) (hm : ms.length ≤ 12) (sh : GateShape) (nm : List UInt8) (bm bs : Nat) (σ : Store) (hbm : σ[bm]? = some (.box [.t (tGateMendS ms)])) (hbs : σ[bs]? = some (.box sh.vs)) : ACalls Try.prog 41 [.t (.str nm), .ptr bm 0, .ptr bs 0] σ (ToR (.lst 1 ((readsOf sh.Kind ms nm).map tStr)) σ) := by
  refine acalls_of Try.func41 (by decide +kernel) (code := Try.f41.body.getD .skip) (n := 43) (c := c_impl_rowOf_1) (rs := [(.tmp 4)]) rfl rfl k_impl_rowOf_1 (by kernel_rfl) (by simp) (fun hσ => ?_)
  have hh : True := trivial
  simp -implicitDefEqProofs only [c_impl_rowOf_1, hbm, List.length_map, tGateMendS, GateShape.vs, S0, S1, S2, S3, S4, S5, S6, S7, S8, S9, S10, S11, S12, S13, S14, S15, S16, S17, opv, opvs, eget, env0, setD, lenStr, lenSl, isNilP, isNilS, putAt, if_true, if_false, reduceCtorEq, Nat.reduceLeDiff, Nat.reduceEqDiff, Nat.reduceSub, Nat.reduceMul, Nat.reduceAdd]
  refine loop_g [5, 10, 0, 2, 8, 9] [0, 2, 8, 9] (fun g : Gr => [(5, g.v), (10, .t (.int .i64 (g.k : Nat)))]) (fun g => g.s) (fun g => g.k ≤ ms.length ∧ OFl σ 1 ((readsOf sh.Kind (ms.take g.k) nm).map tStr) g.v g.s g.is) (fun g => ms.length - g.k) ⟨0, .nils, σ, []⟩ (by simp) ⟨Nat.zero_le _, by simpa [readsOf] using OFl.nils (by omega)⟩ rfl rfl ?_
  rintro ⟨k, v, s, is⟩ ⟨hk, hof⟩
  simp only at hk hof
  have hbl : σ.length ≤ s.length := hof.le
  simp -implicitDefEqProofs only [keep, List.length_map, S0, S1, S2, S3, S4, S5, S6, S7, S8, S9, S10, S11, S12, S13, S14, S15, S16, S17, opv, opvs, eget, env0, setD, lenStr, lenSl, isNilP, isNilS, putAt, if_true, if_false, reduceCtorEq, Nat.reduceLeDiff, Nat.reduceEqDiff, Nat.reduceSub, Nat.reduceMul, Nat.reduceAdd]
  refine cond_split (fun h1 => ?_) (fun h1 => ?_)
  · obtain ⟨x, hx, hlt⟩ := at_of h1
    have more := i64_succ (show k < 4611686018427387904 by omega)
    have c1 : 0 < 1 := by omega
    have hid : s[bs]? = some (.box sh.vs) := hof.box hbs
    have hidA : ∀ τ : Store, (s ++ τ)[bs]? = some (.box sh.vs) := fun τ => (Kp.app s τ).box hid
    rw [GateShape.vs] at hid hidA
    have hln : (readsOf sh.Kind (ms.take k) nm).length ≤ 24 := by
      have := reads_len sh.Kind nm (ms.take k)
      rw [List.length_take] at this
      omega
    have hstep : (readsOf sh.Kind (ms.take (k + 1)) nm).map tStr = (readsOf sh.Kind (ms.take k) nm).map tStr ++ (rd1 sh.Kind nm x).map tStr := by rw [reads_step _ _ hx, List.map_append]
    have hLl : ((readsOf sh.Kind (ms.take k) nm).map tStr).length ≤ 24 := by rw [List.length_map]; exact hln
    generalize hL : (readsOf sh.Kind (ms.take k) nm).map tStr = L at *
    clear h1 hh
    have hh : True := trivial
    simp -implicitDefEqProofs only [hx, nat_nn, Nat.zero_le, List.getElem?_map, Option.map_some, List.length_map, GateMend.ts, more, c1, hid, hidA, S0, S1, S2, S3, S4, S5, S6, S7, S8, S9, S10, S11, S12, S13, S14, S15, S16, S17, opv, opvs, eget, env0, setD, lenStr, lenSl, isNilP, isNilS, putAt, if_true, if_false, reduceCtorEq, Nat.reduceLeDiff, Nat.reduceEqDiff, Nat.reduceSub, Nat.reduceMul, Nat.reduceAdd]
    repeat' (first
      | ((with_reducible refine cond_known (fun h => ?_) (fun h => ?_)) <;> (replace hh := And.intro h hh; clear h; simp -implicitDefEqProofs only [hbx1, hh, cond_t, cond_f, hx, nat_nn, Nat.zero_le, List.getElem?_map, Option.map_some, List.length_map, GateMend.ts, more, c1, hid, hidA, S0, S1, S2, S3, S4, S5, S6, S7, S8, S9, S10, S11, S12, S13, S14, S15, S16, S17, opv, opvs, eget, env0, setD, lenStr, lenSl, isNilP, isNilS, putAt, if_true, if_false, reduceCtorEq, Nat.reduceLeDiff, Nat.reduceEqDiff, Nat.reduceSub, Nat.reduceMul, Nat.reduceAdd]))
      | ((with_reducible refine cond_known (fun h => ?_) (fun h => ?_)) <;> (replace hh := And.intro h hh; clear h; simp -implicitDefEqProofs only [hh, cond_t, cond_f, hx, nat_nn, Nat.zero_le, List.getElem?_map, Option.map_some, List.length_map, GateMend.ts, more, c1, hid, hidA, S0, S1, S2, S3, S4, S5, S6, S7, S8, S9, S10, S11, S12, S13, S14, S15, S16, S17, opv, opvs, eget, env0, setD, lenStr, lenSl, isNilP, isNilS, putAt, if_true, if_false, reduceCtorEq, Nat.reduceLeDiff, Nat.reduceEqDiff, Nat.reduceSub, Nat.reduceMul, Nat.reduceAdd]))
      | (refine lit_rows ?_; (try simp -implicitDefEqProofs only [hh, cond_t, cond_f, hx, nat_nn, Nat.zero_le, List.getElem?_map, Option.map_some, List.length_map, GateMend.ts, more, c1, hid, hidA, q_rows_r _ _ (show ([[V.t (.str x.When)]].all fun r => r.all one) = true from rfl), S0, S1, S2, S3, S4, S5, S6, S7, S8, S9, S10, S11, S12, S13, S14, S15, S16, S17, opv, opvs, eget, env0, setD, lenStr, lenSl, isNilP, isNilS, putAt, if_true, if_false, reduceCtorEq, Nat.reduceLeDiff, Nat.reduceEqDiff, Nat.reduceSub, Nat.reduceMul, Nat.reduceAdd]); refine OFl.appB (hof.more _) (r := [.str x.When]) (by simp [scalar]) (by simp only [maxBy, List.length_append, List.length_cons, List.length_nil]; omega) (by (try simp only [List.length_append, List.length_cons, List.length_nil]); omega) ?_; intro v1 s1 is1 hle1 hof1 hkb1; have hbx1 : s1[s.length]? = some (.box x.vs) := hkb1.box (by simp) (fun hi => by have := (hof.wi.2 _ hi).2; omega); rw [GateMend.vs] at hbx1; (try simp -implicitDefEqProofs only [hh, cond_t, cond_f, hbx1, hx, nat_nn, Nat.zero_le, List.getElem?_map, Option.map_some, List.length_map, GateMend.ts, more, c1, hid, hidA, S0, S1, S2, S3, S4, S5, S6, S7, S8, S9, S10, S11, S12, S13, S14, S15, S16, S17, opv, opvs, eget, env0, setD, lenStr, lenSl, isNilP, isNilS, putAt, if_true, if_false, reduceCtorEq, Nat.reduceLeDiff, Nat.reduceEqDiff, Nat.reduceSub, Nat.reduceMul, Nat.reduceAdd]))
      | (refine lit_rows ?_; (try simp -implicitDefEqProofs only [hh, cond_t, cond_f, hx, nat_nn, Nat.zero_le, List.getElem?_map, Option.map_some, List.length_map, GateMend.ts, more, c1, hid, hidA, q_rows_r _ _ (show ([[V.t (.str x.From)]].all fun r => r.all one) = true from rfl), S0, S1, S2, S3, S4, S5, S6, S7, S8, S9, S10, S11, S12, S13, S14, S15, S16, S17, opv, opvs, eget, env0, setD, lenStr, lenSl, isNilP, isNilS, putAt, if_true, if_false, reduceCtorEq, Nat.reduceLeDiff, Nat.reduceEqDiff, Nat.reduceSub, Nat.reduceMul, Nat.reduceAdd]); refine OFl.appB hof1 (r := [.str x.From]) (by simp [scalar]) (by simp only [maxBy, List.length_append, List.length_cons, List.length_nil]; omega) (by (try simp only [List.length_append, List.length_cons, List.length_nil]); omega) ?_; intro v2 s2 is2 hle2 hof2 hkb2; (try simp -implicitDefEqProofs only [hh, cond_t, cond_f, hx, nat_nn, Nat.zero_le, List.getElem?_map, Option.map_some, List.length_map, GateMend.ts, more, c1, hid, hidA, S0, S1, S2, S3, S4, S5, S6, S7, S8, S9, S10, S11, S12, S13, S14, S15, S16, S17, opv, opvs, eget, env0, setD, lenStr, lenSl, isNilP, isNilS, putAt, if_true, if_false, reduceCtorEq, Nat.reduceLeDiff, Nat.reduceEqDiff, Nat.reduceSub, Nat.reduceMul, Nat.reduceAdd]))
      | (refine lit_rows ?_; (try simp -implicitDefEqProofs only [hh, cond_t, cond_f, hx, nat_nn, Nat.zero_le, List.getElem?_map, Option.map_some, List.length_map, GateMend.ts, more, c1, hid, hidA, q_rows_r _ _ (show ([[V.t (.str x.From)]].all fun r => r.all one) = true from rfl), S0, S1, S2, S3, S4, S5, S6, S7, S8, S9, S10, S11, S12, S13, S14, S15, S16, S17, opv, opvs, eget, env0, setD, lenStr, lenSl, isNilP, isNilS, putAt, if_true, if_false, reduceCtorEq, Nat.reduceLeDiff, Nat.reduceEqDiff, Nat.reduceSub, Nat.reduceMul, Nat.reduceAdd]); refine OFl.appB (hof.more _) (r := [.str x.From]) (by simp [scalar]) (by simp only [maxBy, List.length_append, List.length_cons, List.length_nil]; omega) (by (try simp only [List.length_append, List.length_cons, List.length_nil]); omega) ?_; intro v3 s3 is3 hle3 hof3 hkb3; (try simp -implicitDefEqProofs only [hh, cond_t, cond_f, hx, nat_nn, Nat.zero_le, List.getElem?_map, Option.map_some, List.length_map, GateMend.ts, more, c1, hid, hidA, S0, S1, S2, S3, S4, S5, S6, S7, S8, S9, S10, S11, S12, S13, S14, S15, S16, S17, opv, opvs, eget, env0, setD, lenStr, lenSl, isNilP, isNilS, putAt, if_true, if_false, reduceCtorEq, Nat.reduceLeDiff, Nat.reduceEqDiff, Nat.reduceSub, Nat.reduceMul, Nat.reduceAdd]))
      | (refine lk_g ⟨k + 1, v2, s2, is2⟩ (by simp only; omega) ⟨by simp only; omega, ?_⟩ hof2.le rfl rfl; (try simp only [Known] at hh); rw [hstep]; refine (congrArg (fun z => OFl σ 1 z v2 s2 is2) ?_).mp hof2; clear hstep hL; first | (simp_all [rd1, tStr]; done) | (grind [rd1, tStr]))
      | (refine lk_g ⟨k + 1, v1, s1, is1⟩ (by simp only; omega) ⟨by simp only; omega, ?_⟩ hof1.le rfl rfl; (try simp only [Known] at hh); rw [hstep]; refine (congrArg (fun z => OFl σ 1 z v1 s1 is1) ?_).mp hof1; clear hstep hL; first | (simp_all [rd1, tStr]; done) | (grind [rd1, tStr]))
      | (refine lk_g ⟨k + 1, v3, s3, is3⟩ (by simp only; omega) ⟨by simp only; omega, ?_⟩ hof3.le rfl rfl; (try simp only [Known] at hh); rw [hstep]; refine (congrArg (fun z => OFl σ 1 z v3 s3 is3) ?_).mp hof3; clear hstep hL; first | (simp_all [rd1, tStr]; done) | (grind [rd1, tStr]))
      | (refine lk_g ⟨k + 1, v, _, is⟩ (by simp only; omega) ⟨by simp only; omega, ?_⟩ (by first | omega | (simp; omega)) rfl rfl; (try simp only [Known] at hh); rw [hstep]; refine (congrArg (fun z => OFl σ 1 z v _ is) ?_).mp (hof.more _); clear hstep hL; first | (simp_all [rd1, tStr]; done) | (grind [rd1, tStr])))
  · have hkk := end_of h1 hk
    subst hkk
    rw [List.take_of_length_le (Nat.le_refl _)] at hof
    simp -implicitDefEqProofs only [S0, S1, S2, S3, S4, S5, S6, S7, S8, S9, S10, S11, S12, S13, S14, S15, S16, S17, opv, opvs, eget, env0, setD, lenStr, lenSl, isNilP, isNilS, putAt, if_true, if_false, reduceCtorEq, Nat.reduceLeDiff, Nat.reduceEqDiff, Nat.reduceSub, Nat.reduceMul, Nat.reduceAdd]
    exact fin_keep hbl (OFl.toR (B := []) (by rw [List.append_nil]; exact hof))

theorem impl_reads (ms : List GateMend) (hm : ms.length ≤ 12) (sh : GateShape) (nm : List UInt8) (bm bs : Nat) (σ : Store) (hbm : σ[bm]? = some (.box [.t (tGateMendS ms)])) (hbs : σ[bs]? = some (.box sh.vs)) : ACalls Try.prog 41 [.t (.str nm), .ptr bm 0, .ptr bs 0] σ fun rr σ' => rr = .t (.lst 1 ((readsOf sh.Kind ms nm).map tStr)) ∧ σ' = σ := acalls_frzT (impl_reads0 ms hm sh nm bm bs σ hbm hbs)

end Go.Proofs.Ytcjchimenfadkaa.W

end


section
open Go Go.Ab
set_option maxHeartbeats 2000000
namespace Go.Proofs.Ytcjchimenfadkaa.W
def c_spec_l3Ready : C := (.seq (.ops [⟨(some 8), none, (.mv (.c (.t (.bool false))))⟩]) (.seq (.seq (.ops [⟨(some 9), none, (.mv (.c (.t (.int .i64 0))))⟩]) (.block 0 (.loop (.seq (.seq (.ops [⟨(some 11), none, (.mv (.t 9))⟩, ⟨(some 12), none, (.mv (.t 0))⟩, ⟨(some 13), none, (.len false (.t 12))⟩, ⟨(some 14), none, (.bin .lss (.t 11) (.t 13))⟩]) (.cond (.t 14) .skip (.exit 0))) (.seq (.block 1 (.seq (.ops [⟨(some 17), none, (.mv (.t 0))⟩, ⟨(some 18), none, (.mv (.t 9))⟩, ⟨(some 19), none, (.indexAddr 6 (.t 17) (.t 18))⟩, ⟨(some 20), none, (.load (some 6) (.t 19))⟩, ⟨(some 10), none, (.new [(.t (.str [])), (.t (.str [])), (.t (.str [])), (.t (.str [])), (.t (.str [])), (.t (.str []))])⟩, ⟨none, none, (.store 6 (.t 10) (.t 20))⟩]) (.seq (.ops [⟨(some 21), none, (.fieldAddr 0 (.t 10))⟩, ⟨(some 22), none, (.load none (.t 21))⟩, ⟨(some 23), none, (.mv (.t 1))⟩, ⟨(some 24), none, (.bin .eql (.t 22) (.t 23))⟩, ⟨(some 25), none, (.mv (.t 24))⟩, ⟨(some 26), (some ⟨25, true⟩), (.fieldAddr 1 (.t 10))⟩, ⟨(some 27), (some ⟨25, true⟩), (.load none (.t 26))⟩, ⟨(some 28), (some ⟨25, true⟩), (.mv (.t 2))⟩, ⟨(some 29), (some ⟨25, true⟩), (.bin .eql (.t 27) (.t 28))⟩, ⟨(some 30), none, (.pick (.t 25) (.t 29) (.c (.t (.bool false))))⟩, ⟨(some 31), none, (.mv (.t 30))⟩, ⟨(some 32), (some ⟨31, true⟩), (.fieldAddr 2 (.t 10))⟩, ⟨(some 33), (some ⟨31, true⟩), (.load none (.t 32))⟩, ⟨(some 34), (some ⟨31, true⟩), (.bin .neq (.t 33) (.c (.t (.str []))))⟩, ⟨(some 35), (some ⟨31, true⟩), (.mv (.t 34))⟩, ⟨(some 36), (some ⟨35, true⟩), (.mv (.t 3))⟩, ⟨(some 37), (some ⟨35, true⟩), (.fieldAddr 2 (.t 10))⟩, ⟨(some 38), (some ⟨35, true⟩), (.load none (.t 37))⟩, ⟨(some 39), (some ⟨35, true⟩), (.call (.c (.fn (.func 32) [])) [(.t 36), (.t 38)])⟩, ⟨(some 40), (some ⟨35, true⟩), (.un .not (.t 39))⟩, ⟨(some 41), (some ⟨31, true⟩), (.pick (.t 35) (.t 40) (.c (.t (.bool false))))⟩, ⟨(some 42), (some ⟨31, true⟩), (.mv (.t 41))⟩, ⟨(some 43), (some ⟨42, false⟩), (.fieldAddr 5 (.t 10))⟩, ⟨(some 44), (some ⟨42, false⟩), (.load none (.t 43))⟩, ⟨(some 45), (some ⟨42, false⟩), (.bin .neq (.t 44) (.c (.t (.str []))))⟩, ⟨(some 46), (some ⟨42, false⟩), (.mv (.t 45))⟩, ⟨(some 47), (some ⟨46, true⟩), (.mv (.t 3))⟩, ⟨(some 48), (some ⟨46, true⟩), (.fieldAddr 5 (.t 10))⟩, ⟨(some 49), (some ⟨46, true⟩), (.load none (.t 48))⟩, ⟨(some 50), (some ⟨46, true⟩), (.call (.c (.fn (.func 32) [])) [(.t 47), (.t 49)])⟩, ⟨(some 51), (some ⟨46, true⟩), (.un .not (.t 50))⟩, ⟨(some 52), (some ⟨42, false⟩), (.pick (.t 46) (.t 51) (.c (.t (.bool false))))⟩, ⟨(some 53), (some ⟨31, true⟩), (.pick (.t 42) (.c (.t (.bool true))) (.t 52))⟩, ⟨(some 54), none, (.pick (.t 31) (.t 53) (.c (.t (.bool false))))⟩]) (.cond (.t 54) (.seq (.ops [⟨(some 8), none, (.mv (.c (.t (.bool false))))⟩]) .ret) .skip)))) (.ops [⟨(some 15), none, (.mv (.t 9))⟩, ⟨(some 16), none, (.bin .add (.t 15) (.c (.t (.int .i64 1))))⟩, ⟨(some 9), none, (.mv (.t 16))⟩])))))) (.seq (.ops [⟨(some 8), none, (.mv (.c (.t (.bool true))))⟩]) .ret)))
theorem k_spec_l3Ready : comp Try.prog 55 (Try.f33.body.getD .skip) = some c_spec_l3Ready := by kernel_rfl

theorem spec_l3Ready (ms : List GateMend) (hm : ms.length ≤ 12) (k0 f0 : List UInt8) (row : List (List UInt8)) (hrl : row.length ≤ 1048576)  (σ : Store) : ACalls Try.prog 33 [.t (tGateMendS ms), .t (.str (k0)), .t (.str (f0)), .t (tStrs row)] σ fun rr σ' => rr = .t (.bool (ms.all (rdyM k0 f0 row))) ∧ σ' = σ := by
  refine acalls_of Try.func33 (by decide +kernel) (code := Try.f33.body.getD .skip) (n := 55) (c := c_spec_l3Ready) (rs := [(.tmp 8)]) rfl rfl k_spec_l3Ready (by kernel_rfl) (by simp) (fun hσ => ?_)
  have hh : True := trivial
  have fin : ∀ {u : V} {τ : Store}, u = .t (.bool (ms.all (rdyM k0 f0 row))) → u.lt σ.length = true → retV σ.length (fun rr σ' => rr = .t (.bool (ms.all (rdyM k0 f0 row))) ∧ σ' = σ) (σ ++ τ) (some [u]) := fun h h2 => ret_same rfl hσ h2 ⟨h, rfl⟩
  have fin0 : ∀ {u : V}, u = .t (.bool (ms.all (rdyM k0 f0 row))) → retV σ.length (fun rr σ' => rr = .t (.bool (ms.all (rdyM k0 f0 row))) ∧ σ' = σ) σ (some [u]) := fun h => ret_same0 rfl ⟨h, rfl⟩
  simp -implicitDefEqProofs only [c_spec_l3Ready, tGateMendS, List.length_map, S0, S1, S2, S3, S4, S5, S6, S7, S8, S9, S10, S11, S12, S13, S14, S15, S16, S17, opv, opvs, eget, env0, setD, lenStr, lenSl, isNilP, isNilS, putAt, if_true, if_false, reduceCtorEq, Nat.reduceLeDiff, Nat.reduceEqDiff, Nat.reduceSub, Nat.reduceMul, Nat.reduceAdd]
  refine loop_p [9, 0, 1, 2, 3] [0, 1, 2, 3] (fun k : Nat => [(9, .t (.int .i64 (k : Nat)))]) (fun k => k ≤ (ms).length ∧ ((ms).take k).all (rdyM k0 f0 row) = true) (fun k => (ms).length - k) 0 (by simp) ⟨Nat.zero_le _, rfl⟩ rfl ?_
  rintro k ⟨hk, hall⟩
  simp -implicitDefEqProofs only [keep, List.length_map, S0, S1, S2, S3, S4, S5, S6, S7, S8, S9, S10, S11, S12, S13, S14, S15, S16, S17, opv, opvs, eget, env0, setD, lenStr, lenSl, isNilP, isNilS, putAt, if_true, if_false, reduceCtorEq, Nat.reduceLeDiff, Nat.reduceEqDiff, Nat.reduceSub, Nat.reduceMul, Nat.reduceAdd]
  refine cond_split (fun h1 => ?_) (fun h1 => ?_)
  · obtain ⟨x, hx, hlt⟩ := at_of h1
    clear h1 hh
    have hh : True := trivial
    simp -implicitDefEqProofs only [hx, nat_nn, Nat.zero_le, List.getElem?_map, Option.map_some, GateMend.ts, List.length_map, i64_succ (show k < 4611686018427387904 by omega), S0, S1, S2, S3, S4, S5, S6, S7, S8, S9, S10, S11, S12, S13, S14, S15, S16, S17, opv, opvs, eget, env0, setD, lenStr, lenSl, isNilP, isNilS, putAt, if_true, if_false, reduceCtorEq, Nat.reduceLeDiff, Nat.reduceEqDiff, Nat.reduceSub, Nat.reduceMul, Nat.reduceAdd]
    repeat' (first
    | ((with_reducible refine cond_known (fun h => ?_) (fun h => ?_)) <;> (replace hh := And.intro h hh; clear h; simp -implicitDefEqProofs only [hh, cond_t, cond_f, hx, nat_nn, Nat.zero_le, List.getElem?_map, Option.map_some, GateMend.ts, List.length_map, i64_succ (show k < 4611686018427387904 by omega), S0, S1, S2, S3, S4, S5, S6, S7, S8, S9, S10, S11, S12, S13, S14, S15, S16, S17, opv, opvs, eget, env0, setD, lenStr, lenSl, isNilP, isNilS, putAt, if_true, if_false, reduceCtorEq, Nat.reduceLeDiff, Nat.reduceEqDiff, Nat.reduceSub, Nat.reduceMul, Nat.reduceAdd]))
    | ((with_reducible refine call_pure (spec_l1Has row hrl _ _) ?_); simp -implicitDefEqProofs only [hh, cond_t, cond_f, hx, nat_nn, Nat.zero_le, List.getElem?_map, Option.map_some, GateMend.ts, List.length_map, i64_succ (show k < 4611686018427387904 by omega), S0, S1, S2, S3, S4, S5, S6, S7, S8, S9, S10, S11, S12, S13, S14, S15, S16, S17, opv, opvs, eget, env0, setD, lenStr, lenSl, isNilP, isNilS, putAt, if_true, if_false, reduceCtorEq, Nat.reduceLeDiff, Nat.reduceEqDiff, Nat.reduceSub, Nat.reduceMul, Nat.reduceAdd])
    | (first | ((with_reducible refine fin0 ?_); refine tb ?_; (try simp only [Known] at hh); have hno := all_not (l := (ms)) (p := (rdyM k0 f0 row)) hx; rw [hno (by grind [rdyM])]) | ((with_reducible refine fin ?_ ?_); rotate_left; exact rfl; refine tb ?_; (try simp only [Known] at hh); have hno := all_not (l := (ms)) (p := (rdyM k0 f0 row)) hx; rw [hno (by grind [rdyM])]) | (refine lk_p0 (k + 1) (by simp) (by simp) (by omega) ⟨by omega, all_step hx hall ?_⟩ rfl; (try simp only [Known] at hh); grind [rdyM]) | (refine lk_p (k + 1) (by simp) (by simp) hσ rfl (by omega) ⟨by omega, all_step hx hall ?_⟩ rfl rfl; (try simp only [Known] at hh); grind [rdyM]) | (refine lk_pm (k + 1) (Nat.le_refl _) (by simp) hσ rfl rfl (by omega) ⟨by omega, all_step hx hall ?_⟩ (by simp [ltE, keep, eget, V.lt]) rfl; (try simp only [Known] at hh); grind [rdyM])))
  replace hall := all_len hall ((end_of h1 hk).trans (by rfl))
  clear h1 hk
  simp -implicitDefEqProofs only [S0, S1, S2, S3, S4, S5, S6, S7, S8, S9, S10, S11, S12, S13, S14, S15, S16, S17, opv, opvs, eget, env0, setD, lenStr, lenSl, isNilP, isNilS, putAt, if_true, if_false, reduceCtorEq, Nat.reduceLeDiff, Nat.reduceEqDiff, Nat.reduceSub, Nat.reduceMul, Nat.reduceAdd]
  (first | ((with_reducible refine fin0 ?_); refine tb ?_; (try simp only [Known] at hh); rw [hall]) | ((with_reducible refine fin ?_ ?_); rotate_left; exact rfl; refine tb ?_; (try simp only [Known] at hh); rw [hall]))
def rdyF (k : List UInt8) (ms : List GateMend) (f : List UInt8) (row : List (List UInt8)) : Bool := ms.all (rdyM k f row)
def nmsOf (sh : GateShape) : List (List UInt8) := sh.Fields.map GateField.Name
def noNx (rdy : List UInt8 → List (List UInt8) → Bool) (row : List (List UInt8)) (f : List UInt8) : Bool := !nextF rdy row f
theorem noNx_iff {rdy : List UInt8 → List (List UInt8) → Bool} {row : List (List UInt8)} {f : List UInt8} : noNx rdy row f = !(!hasW row f && rdy f row) := by
  have : row.contains f = hasW row f := by
    rw [Bool.eq_iff_iff, hasW_mem]; simp
  rw [noNx, nextF, this]
theorem step_none {names : List Nm} {rdy : Nm → List Nm → Bool} {row : List Nm} (h : names.all (noNx rdy row) = true) : stepR names rdy row = row := by
  rw [stepR, List.find?_eq_none.2 fun x hx => by
    have := List.all_eq_true.1 h x hx
    simpa [noNx] using this]
theorem step_some {names : List Nm} {rdy : Nm → List Nm → Bool} {row : List Nm} {i : Nat} {f : Nm} (h : (names.take i).all (noNx rdy row) = true) (hi : names[i]? = some f) (hf : noNx rdy row f = false) : stepR names rdy row = row ++ [f] := by
  have hn : names.find? (nextF rdy row) = some f := by
    rw [← List.take_append_drop i names, List.find?_append, List.find?_eq_none.2 fun x hx => by
      have := List.all_eq_true.1 h x hx
      simpa [noNx] using this]
    have hd : names.drop i = f :: names.drop (i + 1) := drop_of hi
    rw [hd, List.find?_cons]
    have : nextF rdy row f = true := by simpa [noNx] using hf
    rw [this]; rfl
  rw [stepR, hn]
theorem rowR_len (names : List Nm) (rdy : Nm → List Nm → Bool) : ∀ n, (rowR names rdy n []).length ≤ n
  | 0 => by simp [rowR]
  | n + 1 => by
    have := rowR_len names rdy n
    rw [rowR, stepR]
    split
    · omega
    · rw [List.length_append, List.length_singleton]; omega
theorem sees_ms {σ : Store} (ms : List GateMend) : SeesA σ (.t (tGateMendS ms)) (.t (tGateMendS ms)) := .inl ⟨_, rfl, sees_posT _ _ (by simp only [posT, tGateMendS, Nat.zero_lt_succ, decide_true, Bool.true_and]; exact posR_map _ (fun m => by simp [GateMend.ts, posL, posT]) ms)⟩
def c_spec_l3Row : C := (.seq (.ops [⟨(some 2), none, (.box (.t 0))⟩, ⟨(some 4), none, (.mv (.c .nils))⟩]) (.seq (.ops [⟨(some 9), none, (.lit none 1 0 [(.t (.str []))] [])⟩, ⟨(some 5), none, (.mv (.t 9))⟩]) (.seq (.seq (.ops [⟨(some 6), none, (.mv (.c (.t (.int .i64 0))))⟩]) (.block 0 (.loop (.seq (.seq (.ops [⟨(some 10), none, (.mv (.t 6))⟩, ⟨(some 11), none, (.fieldAddr 1 (.t 2))⟩, ⟨(some 12), none, (.load none (.t 11))⟩, ⟨(some 13), none, (.len false (.t 12))⟩, ⟨(some 14), none, (.bin .lss (.t 10) (.t 13))⟩]) (.cond (.t 14) .skip (.exit 0))) (.seq (.block 1 (.seq (.ops [⟨(some 7), none, (.mv (.c (.t (.int .i64 0))))⟩]) (.block 2 (.loop (.seq (.seq (.ops [⟨(some 17), none, (.mv (.t 7))⟩, ⟨(some 18), none, (.fieldAddr 1 (.t 2))⟩, ⟨(some 19), none, (.load none (.t 18))⟩, ⟨(some 20), none, (.len false (.t 19))⟩, ⟨(some 21), none, (.bin .lss (.t 17) (.t 20))⟩]) (.cond (.t 21) .skip (.exit 2))) (.seq (.block 3 (.seq (.ops [⟨(some 24), none, (.fieldAddr 1 (.t 2))⟩, ⟨(some 25), none, (.load none (.t 24))⟩, ⟨(some 26), none, (.mv (.t 7))⟩, ⟨(some 27), none, (.indexAddr 11 (.t 25) (.t 26))⟩, ⟨(some 28), none, (.fieldAddr 0 (.t 27))⟩, ⟨(some 29), none, (.load none (.t 28))⟩, ⟨(some 8), none, (.mv (.t 29))⟩]) (.seq (.ops [⟨(some 30), none, (.mv (.t 5))⟩, ⟨(some 31), none, (.mv (.t 8))⟩, ⟨(some 32), none, (.call (.c (.fn (.func 32) [])) [(.t 30), (.t 31)])⟩, ⟨(some 33), none, (.un .not (.t 32))⟩, ⟨(some 34), none, (.mv (.t 33))⟩, ⟨(some 35), (some ⟨34, true⟩), (.mv (.t 1))⟩, ⟨(some 36), (some ⟨34, true⟩), (.fieldAddr 0 (.t 2))⟩, ⟨(some 37), (some ⟨34, true⟩), (.load none (.t 36))⟩, ⟨(some 38), (some ⟨34, true⟩), (.mv (.t 8))⟩, ⟨(some 39), (some ⟨34, true⟩), (.mv (.t 5))⟩, ⟨(some 40), (some ⟨34, true⟩), (.call (.c (.fn (.func 33) [])) [(.t 35), (.t 37), (.t 38), (.t 39)])⟩, ⟨(some 41), none, (.pick (.t 34) (.t 40) (.c (.t (.bool false))))⟩]) (.cond (.t 41) (.seq (.ops [⟨(some 42), none, (.mv (.t 5))⟩, ⟨(some 43), none, (.mv (.t 8))⟩, ⟨(some 44), none, (.lit none 1 1 [(.t (.str []))] [⟨0, (.t 43)⟩])⟩, ⟨(some 45), none, (.append 1 16 (.t 42) (.t 44))⟩, ⟨(some 5), none, (.mv (.t 45))⟩]) (.exit 2)) .skip)))) (.ops [⟨(some 22), none, (.mv (.t 7))⟩, ⟨(some 23), none, (.bin .add (.t 22) (.c (.t (.int .i64 1))))⟩, ⟨(some 7), none, (.mv (.t 23))⟩]))))))) (.ops [⟨(some 15), none, (.mv (.t 6))⟩, ⟨(some 16), none, (.bin .add (.t 15) (.c (.t (.int .i64 1))))⟩, ⟨(some 6), none, (.mv (.t 16))⟩])))))) (.seq (.ops [⟨(some 46), none, (.mv (.t 5))⟩, ⟨(some 4), none, (.mv (.t 46))⟩]) .ret))))
theorem k_spec_l3Row : comp Try.prog 47 (Try.f16.body.getD .skip) = some c_spec_l3Row := by kernel_rfl

set_option maxHeartbeats 8000000 in
theorem spec_l3Row0 (sh : GateShape) (hs : sh.Fields.length ≤ 6) (ms : List GateMend) (hm : ms.length ≤ 12) (σ : Store) : ACalls Try.prog 16 [.agg sh.vs, .t (tGateMendS ms)] σ (ToR (.lst 1 ((rowR (nmsOf sh) (rdyF sh.Kind ms) (nmsOf sh).length []).map tStr)) σ) := by
  refine acalls_of Try.func16 (by decide +kernel) (code := Try.f16.body.getD .skip) (n := 47) (c := c_spec_l3Row) (rs := [(.tmp 4)]) rfl rfl k_spec_l3Row (by kernel_rfl) (by simp) (fun hσ => ?_)
  have hh : True := trivial
  obtain ⟨rdy, hrdy⟩ : ∃ r, r = rdyF sh.Kind ms := ⟨_, rfl⟩
  rw [← hrdy]
  have hnl : (nmsOf sh).length = sh.Fields.length := by rw [nmsOf, List.length_map]
  simp -implicitDefEqProofs only [c_spec_l3Row, List.length_map, GateShape.vs, S0, S1, S2, S3, S4, S5, S6, S7, S8, S9, S10, S11, S12, S13, S14, S15, S16, S17, opv, opvs, eget, env0, setD, lenStr, lenSl, isNilP, isNilS, putAt, if_true, if_false, reduceCtorEq, Nat.reduceLeDiff, Nat.reduceEqDiff, Nat.reduceSub, Nat.reduceMul, Nat.reduceAdd]
  refine lit_rows ?_
  simp -implicitDefEqProofs only [List.length_map, GateShape.vs, S0, S1, S2, S3, S4, S5, S6, S7, S8, S9, S10, S11, S12, S13, S14, S15, S16, S17, opv, opvs, eget, env0, setD, lenStr, lenSl, isNilP, isNilS, putAt, if_true, if_false, reduceCtorEq, Nat.reduceLeDiff, Nat.reduceEqDiff, Nat.reduceSub, Nat.reduceMul, Nat.reduceAdd]
  refine loop_g [5, 6, 1, 2] [1, 2] (fun g : Gr => [(5, g.v), (6, .t (.int .i64 (g.k : Nat)))]) (fun g => g.s) (fun g => g.k ≤ sh.Fields.length ∧ OFl (σ ++ [.box sh.vs]) 1 ((rowR (nmsOf sh) rdy g.k []).map tStr) g.v g.s g.is) (fun g => sh.Fields.length - g.k) ⟨0, .rows 1 [], σ ++ [.box sh.vs], []⟩ (by simp) ⟨Nat.zero_le _, OFl.rows (by omega)⟩ rfl rfl ?_
  rintro ⟨k, v, s, is⟩ ⟨hk, hof⟩
  simp only at hk hof
  have hbl : σ.length ≤ s.length := by have := hof.le; simp at this; omega
  have hid : s[σ.length]? = some (.box sh.vs) := hof.box (by simp)
  rw [GateShape.vs] at hid
  have hidA : ∀ τ : Store, (s ++ τ)[σ.length]? = some _ := fun τ => (Kp.app s τ).box hid
  simp -implicitDefEqProofs only [keep, hid, hidA, List.length_map, S0, S1, S2, S3, S4, S5, S6, S7, S8, S9, S10, S11, S12, S13, S14, S15, S16, S17, opv, opvs, eget, env0, setD, lenStr, lenSl, isNilP, isNilS, putAt, if_true, if_false, reduceCtorEq, Nat.reduceLeDiff, Nat.reduceEqDiff, Nat.reduceSub, Nat.reduceMul, Nat.reduceAdd]
  refine cond_split (fun h1 => ?_) (fun h1 => ?_)
  · have hlt : k < sh.Fields.length := by simpa using h1
    have more := i64_succ (show k < 4611686018427387904 by omega)
    obtain ⟨row, hrow⟩ : ∃ r, r = rowR (nmsOf sh) rdy k [] := ⟨_, rfl⟩
    have hr1 : rowR (nmsOf sh) rdy (k + 1) [] = stepR (nmsOf sh) rdy row := by rw [rowR, ← hrow]
    have hrl : row.length ≤ 6 := by have := rowR_len (nmsOf sh) rdy k; rw [hrow]; omega
    rw [← hrow] at hof
    have hone := hof.one
    simp -implicitDefEqProofs only [hid, hidA, more, one_cells hone, hone, S0, S1, S2, S3, S4, S5, S6, S7, S8, S9, S10, S11, S12, S13, S14, S15, S16, S17, opv, opvs, eget, env0, setD, lenStr, lenSl, isNilP, isNilS, putAt, if_true, if_false, reduceCtorEq, Nat.reduceLeDiff, Nat.reduceEqDiff, Nat.reduceSub, Nat.reduceMul, Nat.reduceAdd]
    refine loop_g [5, 7, 1, 2, 6] [1, 2, 6] (fun g : Gr => [(5, v), (7, .t (.int .i64 (g.k : Nat)))]) (fun _ => s) (fun g => g.k ≤ sh.Fields.length ∧ ((nmsOf sh).take g.k).all (noNx rdy row) = true) (fun g => sh.Fields.length - g.k) ⟨0, v, s, is⟩ hbl ⟨Nat.zero_le _, rfl⟩ rfl rfl ?_
    rintro ⟨i, _, _, _⟩ ⟨hi, hall⟩
    simp only at hi hall
    simp -implicitDefEqProofs only [keep, hid, hidA, List.length_map, S0, S1, S2, S3, S4, S5, S6, S7, S8, S9, S10, S11, S12, S13, S14, S15, S16, S17, opv, opvs, eget, env0, setD, lenStr, lenSl, isNilP, isNilS, putAt, if_true, if_false, reduceCtorEq, Nat.reduceLeDiff, Nat.reduceEqDiff, Nat.reduceSub, Nat.reduceMul, Nat.reduceAdd]
    refine cond_split (fun h2 => ?_) (fun h2 => ?_)
    · obtain ⟨x, hx, hxlt⟩ := at_of h2
      have mori := i64_succ (show i < 4611686018427387904 by omega)
      have hni : (nmsOf sh)[i]? = some x.Name := by rw [nmsOf, List.getElem?_map, hx]; rfl
      simp -implicitDefEqProofs only [hx, mori, one_cells hone, hone, hid, hidA, nat_nn, Nat.zero_le, List.getElem?_map, Option.map_some, List.length_map, GateField.ts, Nat.zero_lt_one, true_and, S0, S1, S2, S3, S4, S5, S6, S7, S8, S9, S10, S11, S12, S13, S14, S15, S16, S17, opv, opvs, eget, env0, setD, lenStr, lenSl, isNilP, isNilS, putAt, if_true, if_false, reduceCtorEq, Nat.reduceLeDiff, Nat.reduceEqDiff, Nat.reduceSub, Nat.reduceMul, Nat.reduceAdd]
      refine call_bor (fun σ => spec_l1Has row (by omega) x.Name σ) rfl ⟨_, _, rfl, sees_lst hof.own rfl (List.prefix_refl _), _, _, rfl, sees_one rfl, rfl⟩ ?_
      rcases hha : hasW row x.Name with _ | _
      · simp -implicitDefEqProofs only [hx, mori, one_cells hone, hone, cond_t, cond_f, Bool.not_false, hid, hidA, nat_nn, Nat.zero_le, List.getElem?_map, Option.map_some, List.length_map, GateField.ts, Nat.zero_lt_one, true_and, S0, S1, S2, S3, S4, S5, S6, S7, S8, S9, S10, S11, S12, S13, S14, S15, S16, S17, opv, opvs, eget, env0, setD, lenStr, lenSl, isNilP, isNilS, putAt, if_true, if_false, reduceCtorEq, Nat.reduceLeDiff, Nat.reduceEqDiff, Nat.reduceSub, Nat.reduceMul, Nat.reduceAdd]
        refine call_bor (fun σ => spec_l3Ready ms hm sh.Kind x.Name row (by omega) σ) rfl ⟨_, _, rfl, sees_ms ms, _, _, rfl, sees_one rfl, _, _, rfl, sees_one rfl, _, _, rfl, sees_lst hof.own rfl (List.prefix_refl _), rfl⟩ ?_
        rcases hrd : ms.all (rdyM sh.Kind x.Name row) with _ | _
        · simp -implicitDefEqProofs only [hx, mori, one_cells hone, hone, cond_t, cond_f, Bool.not_false, hid, hidA, nat_nn, Nat.zero_le, List.getElem?_map, Option.map_some, List.length_map, GateField.ts, Nat.zero_lt_one, true_and, S0, S1, S2, S3, S4, S5, S6, S7, S8, S9, S10, S11, S12, S13, S14, S15, S16, S17, opv, opvs, eget, env0, setD, lenStr, lenSl, isNilP, isNilS, putAt, if_true, if_false, reduceCtorEq, Nat.reduceLeDiff, Nat.reduceEqDiff, Nat.reduceSub, Nat.reduceMul, Nat.reduceAdd]
          refine lk_g ⟨i + 1, v, s, is⟩ (by simp only; omega) ⟨by simp only; omega, all_step hni hall (by rw [noNx_iff, hha, hrdy, rdyF, hrd]; rfl)⟩ hbl rfl rfl
        · simp -implicitDefEqProofs only [hx, mori, one_cells hone, hone, cond_t, cond_f, Bool.not_false, hid, hidA, nat_nn, Nat.zero_le, List.getElem?_map, Option.map_some, List.length_map, GateField.ts, Nat.zero_lt_one, true_and, S0, S1, S2, S3, S4, S5, S6, S7, S8, S9, S10, S11, S12, S13, S14, S15, S16, S17, opv, opvs, eget, env0, setD, lenStr, lenSl, isNilP, isNilS, putAt, if_true, if_false, reduceCtorEq, Nat.reduceLeDiff, Nat.reduceEqDiff, Nat.reduceSub, Nat.reduceMul, Nat.reduceAdd]
          refine lit_rows ?_
          simp -implicitDefEqProofs only [hx, mori, one_cells hone, hone, cond_t, cond_f, q_rows_r _ _ (show ([[V.t (.str x.Name)]].all fun r => r.all one) = true from rfl), hid, hidA, nat_nn, Nat.zero_le, List.getElem?_map, Option.map_some, List.length_map, GateField.ts, Nat.zero_lt_one, true_and, S0, S1, S2, S3, S4, S5, S6, S7, S8, S9, S10, S11, S12, S13, S14, S15, S16, S17, opv, opvs, eget, env0, setD, lenStr, lenSl, isNilP, isNilS, putAt, if_true, if_false, reduceCtorEq, Nat.reduceLeDiff, Nat.reduceEqDiff, Nat.reduceSub, Nat.reduceMul, Nat.reduceAdd]
          refine hof.app (r := [.str x.Name]) (by simp [scalar]) (by rw [List.length_map]; simp only [maxBy]; omega) (by rw [List.length_map]; omega) ?_
          intro v' s' is' hle hof'
          try simp -implicitDefEqProofs only [more, S0, S1, S2, S3, S4, S5, S6, S7, S8, S9, S10, S11, S12, S13, S14, S15, S16, S17, opv, opvs, eget, env0, setD, lenStr, lenSl, isNilP, isNilS, putAt, if_true, if_false, reduceCtorEq, Nat.reduceLeDiff, Nat.reduceEqDiff, Nat.reduceSub, Nat.reduceMul, Nat.reduceAdd]
          refine lk_g ⟨k + 1, v', s', is'⟩ (by simp only; omega) ⟨by simp only; omega, ?_⟩ (by omega) rfl rfl
          simp only
          rw [hr1, step_some hall hni (by rw [noNx_iff, hha, hrdy, rdyF, hrd]; rfl), List.map_append]
          exact hof'
      · simp -implicitDefEqProofs only [hx, mori, one_cells hone, hone, cond_t, cond_f, Bool.not_true, hid, hidA, nat_nn, Nat.zero_le, List.getElem?_map, Option.map_some, List.length_map, GateField.ts, Nat.zero_lt_one, true_and, S0, S1, S2, S3, S4, S5, S6, S7, S8, S9, S10, S11, S12, S13, S14, S15, S16, S17, opv, opvs, eget, env0, setD, lenStr, lenSl, isNilP, isNilS, putAt, if_true, if_false, reduceCtorEq, Nat.reduceLeDiff, Nat.reduceEqDiff, Nat.reduceSub, Nat.reduceMul, Nat.reduceAdd]
        refine lk_g ⟨i + 1, v, s, is⟩ (by simp only; omega) ⟨by simp only; omega, all_step hni hall (by rw [noNx_iff, hha]; rfl)⟩ hbl rfl rfl
    · replace hall := all_len hall ((end_of h2 hi).trans (by rw [hnl]))
      simp -implicitDefEqProofs only [more, S0, S1, S2, S3, S4, S5, S6, S7, S8, S9, S10, S11, S12, S13, S14, S15, S16, S17, opv, opvs, eget, env0, setD, lenStr, lenSl, isNilP, isNilS, putAt, if_true, if_false, reduceCtorEq, Nat.reduceLeDiff, Nat.reduceEqDiff, Nat.reduceSub, Nat.reduceMul, Nat.reduceAdd]
      refine lk_g ⟨k + 1, v, s, is⟩ (by simp only; omega) ⟨by simp only; omega, ?_⟩ hbl rfl rfl
      simp only
      rw [hr1, step_none hall]
      exact hof
  · have hkk := end_of h1 hk
    subst hkk
    rw [hnl]
    simp -implicitDefEqProofs only [S0, S1, S2, S3, S4, S5, S6, S7, S8, S9, S10, S11, S12, S13, S14, S15, S16, S17, opv, opvs, eget, env0, setD, lenStr, lenSl, isNilP, isNilS, putAt, if_true, if_false, reduceCtorEq, Nat.reduceLeDiff, Nat.reduceEqDiff, Nat.reduceSub, Nat.reduceMul, Nat.reduceAdd]
    exact fin_keep hbl hof.toR
theorem spec_l3Row (sh : GateShape) (hs : sh.Fields.length ≤ 6) (ms : List GateMend) (hm : ms.length ≤ 12) (σ : Store) : ACalls Try.prog 16 [.agg sh.vs, .t (tGateMendS ms)] σ fun rr σ' => rr = .t (.lst 1 ((rowR (nmsOf sh) (rdyF sh.Kind ms) (nmsOf sh).length []).map tStr)) ∧ σ' = σ := acalls_frzT (spec_l3Row0 sh hs ms hm σ)

end Go.Proofs.Ytcjchimenfadkaa.W

end
