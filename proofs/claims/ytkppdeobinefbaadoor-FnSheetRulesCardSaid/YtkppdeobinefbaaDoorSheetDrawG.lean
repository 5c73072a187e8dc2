/- Lines that are drawn. Conditions: none. -/
/- Kinds, keys and words that are drawn. Conditions: none. -/
import Derived.Test.YtkppdeobinefbaaDoorSheetDrawE
set_option linter.unusedSimpArgs false
set_option linter.unusedVariables false
set_option linter.defProp false

section
open Go Go.Ab
set_option maxHeartbeats 2000000
namespace Go.Proofs.YtkppdeobinefbaaDoor.W
/-- A list of drawn words of one's own; the reader has gone on. -/
structure DW (σ : Store) (l : List UInt8) (id : Nat) (q : Nat) (ws : List (List UInt8)) (v : V) (is : List Nat) (b : Nat) (s : Store) : Prop where
  le : b ≤ s.length
  rd : s[id]? = some (.box (rdV l q))
  kp : Kb [id] σ s
  own : Own s (tStrs ws) v is
  nr : noRows v
  wi : Wi is b s.length
  sm : ∀ w ∈ ws, w.length ≤ 201
theorem DW.one {σ s : Store} {l : List UInt8} {id q b : Nat} {ws : List (List UInt8)} {v : V} {is : List Nat} (h : DW σ l id q ws v is b s) : Go.Ab.one v = true := h.own.one
theorem Kb.trans {is : List Nat} {a b c : Store} (h : Kb is a b) (hl : a.length ≤ b.length) (k : Kb is b c) : Kb is a c := fun j hj hm => (k j (by omega) hm).trans (h j hj hm)
theorem Kb.setId {s : Store} {id : Nat} {o : Go.Ab.Obj} : Kb [id] s (s.set id o) := fun j hj hm => by
  rw [List.getElem?_set_ne (by simpa using fun e : id = j => hm (by simp [e]))]

structure Gd where
  i : Nat
  q : Nat
  ws : List (List UInt8)
  v : V
  is : List Nat
  s : Store

def LineR (l : List UInt8) (p id : Nat) (σ : Store) (r : V) (σ' : Store) : Prop := ∃ (key : List UInt8) (ws : List (List UInt8)) (v : V) (is : List Nat) (q : Nat), r = .agg [.t (.str key), v] ∧ key.length ≤ 20 ∧ ws.length ≤ 8 ∧ q ≤ p + 40 ∧ DW σ l id q ws v is σ.length σ'
def c_spec_l38Line : C := (.seq (.ops [⟨(some 4), none, (.new [(.t (.str [])), .nils])⟩]) (.seq (.ops [⟨(some 9), none, (.mv (.t 1))⟩, ⟨(some 10), none, (.call (.c (.fn (.func 12) [])) [(.t 9)])⟩, ⟨(some 5), none, (.mv (.t 10))⟩]) (.seq (.ops [⟨(some 11), none, (.mv (.t 5))⟩, ⟨(some 12), none, (.mv (.t 0))⟩, ⟨(some 13), none, (.mv (.t 5))⟩, ⟨(some 14), none, (.len false (.t 13))⟩, ⟨(some 15), none, (.call (.c (.fn (.func 57) [])) [(.t 12), (.t 14)])⟩, ⟨(some 16), none, (.indexAddr 4 (.t 11) (.t 15))⟩, ⟨(some 17), none, (.load (some 4) (.t 16))⟩, ⟨(some 6), none, (.new [(.t (.str [])), .nils, (.t (.bool false)), .nils])⟩, ⟨none, none, (.store 4 (.t 6) (.t 17))⟩]) (.seq (.ops [⟨(some 18), none, (.fieldAddr 0 (.t 6))⟩, ⟨(some 19), none, (.load none (.t 18))⟩, ⟨(some 20), none, (.build [(.t (.str [])), .nils] [⟨0, ⟨1, (.t 19)⟩⟩])⟩, ⟨(some 7), none, (.new [(.t (.str [])), .nils])⟩, ⟨none, none, (.store 2 (.t 7) (.t 20))⟩]) (.seq (.seq (.ops [⟨(some 21), none, (.fieldAddr 2 (.t 6))⟩, ⟨(some 22), none, (.load none (.t 21))⟩, ⟨(some 23), none, (.un .not (.t 22))⟩, ⟨(some 24), none, (.mv (.t 23))⟩, ⟨(some 25), (some ⟨24, true⟩), (.mv (.t 0))⟩, ⟨(some 26), (some ⟨24, true⟩), (.call (.c (.fn (.func 57) [])) [(.t 25), (.c (.t (.int .i64 4)))])⟩, ⟨(some 27), (some ⟨24, true⟩), (.bin .eql (.t 26) (.c (.t (.int .i64 0))))⟩, ⟨(some 28), none, (.pick (.t 24) (.t 27) (.c (.t (.bool false))))⟩]) (.cond (.t 28) (.seq (.ops [⟨(some 29), none, (.fieldAddr 1 (.t 7))⟩, ⟨(some 30), none, (.load none (.t 29))⟩, ⟨(some 31), none, (.fieldAddr 3 (.t 6))⟩, ⟨(some 32), none, (.load none (.t 31))⟩, ⟨(some 33), none, (.append 1 16 (.t 30) (.t 32))⟩, ⟨(some 34), none, (.fieldAddr 1 (.t 7))⟩, ⟨none, none, (.store 1 (.t 34) (.t 33))⟩]) (.seq (.ops [⟨(some 35), none, (.load (some 2) (.t 7))⟩, ⟨none, none, (.store 2 (.t 4) (.t 35))⟩]) .ret)) .skip)) (.seq (.seq (.ops [⟨(some 8), none, (.mv (.c (.t (.int .i64 0))))⟩]) (.block 0 (.loop (.seq (.seq (.ops [⟨(some 36), none, (.mv (.t 8))⟩, ⟨(some 37), none, (.fieldAddr 1 (.t 6))⟩, ⟨(some 38), none, (.load none (.t 37))⟩, ⟨(some 39), none, (.len false (.t 38))⟩, ⟨(some 40), none, (.bin .lss (.t 36) (.t 39))⟩]) (.cond (.t 40) .skip (.exit 0))) (.seq (.block 1 (.drawn [(.mk 0 false ⟨(some 43), none, (.fieldAddr 1 (.t 7))⟩ []), (.mk 1 false ⟨(some 44), none, (.load none (.t 43))⟩ []), (.mk 2 false ⟨(some 45), none, (.mv (.t 0))⟩ []), (.mk 3 false ⟨(some 46), none, (.fieldAddr 1 (.t 6))⟩ []), (.mk 4 false ⟨(some 47), none, (.load none (.t 46))⟩ []), (.mk 5 false ⟨(some 48), none, (.mv (.t 8))⟩ []), (.mk 6 false ⟨(some 49), none, (.indexAddr 1 (.t 47) (.t 48))⟩ []), (.mk 7 false ⟨(some 50), none, (.load none (.t 49))⟩ []), (.mk 8 true ⟨(some 51), none, (.call (.c (.fn (.func 99) [])) [(.t 45), (.t 50)])⟩ [⟨(some 44), none, (.load none (.t 43))⟩]), (.mk 9 false ⟨(some 52), none, (.lit (some false) 1 1 [(.t (.str []))] [⟨0, (.t 51)⟩])⟩ []), (.mk 10 false ⟨(some 53), none, (.append 1 16 (.t 44) (.t 52))⟩ []), (.mk 11 false ⟨(some 54), none, (.fieldAddr 1 (.t 7))⟩ []), (.mk 12 false ⟨none, none, (.store 1 (.t 54) (.t 53))⟩ [])])) (.ops [⟨(some 41), none, (.mv (.t 8))⟩, ⟨(some 42), none, (.bin .add (.t 41) (.c (.t (.int .i64 1))))⟩, ⟨(some 8), none, (.mv (.t 42))⟩])))))) (.seq (.ops [⟨(some 55), none, (.load (some 2) (.t 7))⟩, ⟨none, none, (.store 2 (.t 4) (.t 55))⟩]) .ret)))))))
theorem k_spec_l38Line : comp Tryd.prog 56 (Tryd.f60.body.getD .skip) = some c_spec_l38Line := by kernel_rfl

set_option maxHeartbeats 8000000 in
theorem draw_line (l : List UInt8) (hl : l.length ≤ 2000) (p id : Nat) (hp : p < 800000000) (kind : List UInt8) (hk : kindOk kind = true) (σ : Store) (hid : σ[id]? = some (.box (rdV l p))) : ACalls Tryd.prog 60 [.ptr id 0, .t (.str kind)] σ (LineR l p id σ) := by
  refine acalls_of Tryd.func60 (by decide +kernel) (code := Tryd.f60.body.getD .skip) (n := 56) (c := c_spec_l38Line) (rs := [(.cell 4 (some 2))]) rfl rfl k_spec_l38Line (by kernel_rfl) (by simp) (fun hσ => ?_)
  have hidl := (List.getElem?_eq_some_iff.1 hid).1
  obtain ⟨r0, rl, hrc⟩ := rules_cons hk
  have hn1 : 1 ≤ (rulesR kind).length := by rw [hrc]; simp
  have hn2 := (rules_small kind).1
  simp -implicitDefEqProofs only [c_spec_l38Line, S0, S1, S2, S3, S4, S5, S6, S7, S8, S9, S10, S11, S12, S13, S14, S15, S16, S17, opv, opvs, eget, env0, setD, lenStr, lenSl, isNilP, isNilS, putAt, if_true, if_false, reduceCtorEq, Nat.reduceLeDiff, Nat.reduceEqDiff, Nat.reduceSub, Nat.reduceMul, Nat.reduceAdd]
  refine call_pure (spec_SheetRules kind _) ?_
  simp -implicitDefEqProofs only [List.length_map, S0, S1, S2, S3, S4, S5, S6, S7, S8, S9, S10, S11, S12, S13, S14, S15, S16, S17, opv, opvs, eget, env0, setD, lenStr, lenSl, isNilP, isNilS, putAt, if_true, if_false, reduceCtorEq, Nat.reduceLeDiff, Nat.reduceEqDiff, Nat.reduceSub, Nat.reduceMul, Nat.reduceAdd]
  refine call_by (by rw [List.append_nil]; exact pick_n l hl p (rulesR kind).length id (by omega) hn1 (by omega) _ ((Kp.app σ _).box hid)) ?_
  rintro r σ' ⟨x, rfl, hx, rfl⟩
  obtain ⟨ru, hru⟩ : ∃ ru, (rulesR kind)[x]? = some ru := ⟨(rulesR kind)[x], List.getElem?_eq_getElem hx⟩
  have hsmall := List.all_eq_true.1 (rules_small kind).2 ru (List.mem_of_getElem? hru)
  simp only [ruleSmall, Bool.and_eq_true, decide_eq_true_eq, List.all_eq_true] at hsmall
  obtain ⟨⟨⟨⟨m1, m2⟩, m3⟩, m4⟩, m5⟩ := hsmall
  have hkl := m1
  have hset : ∀ o τ, (σ ++ τ : Store).set id o = σ.set id o ++ τ := fun o τ => List.set_append_left _ _ hidl
  have hsl : ∀ o : Go.Ab.Obj, (σ.set id o).length = σ.length := fun o => List.length_set
  obtain ⟨S, hS⟩ : ∃ S, S = σ.set id (.box (rdV l (p + 1))) := ⟨_, rfl⟩
  have hSl : S.length = σ.length := by rw [hS, hsl]
  have hSid : S[id]? = some (.box (rdV l (p + 1))) := by rw [hS]; exact List.getElem?_set_self hidl
  have hSk : Kb [id] σ S := by rw [hS]; exact Kb.setId
  rw [hset, ← hS, show σ.length = S.length from hSl.symm]
  simp -implicitDefEqProofs only [nat_nn, Nat.zero_le, List.getElem?_map, hru, Option.map_some, SheetRule.ts, List.length_map, S0, S1, S2, S3, S4, S5, S6, S7, S8, S9, S10, S11, S12, S13, S14, S15, S16, S17, opv, opvs, eget, env0, setD, lenStr, lenSl, isNilP, isNilS, putAt, if_true, if_false, reduceCtorEq, Nat.reduceLeDiff, Nat.reduceEqDiff, Nat.reduceSub, Nat.reduceMul, Nat.reduceAdd]
  obtain ⟨N, hN⟩ : ∃ N, N = S.length := ⟨_, rfl⟩
  rcases hm : ru.Many with _ | _
  · simp -implicitDefEqProofs only [cond_t, cond_f, S0, S1, S2, S3, S4, S5, S6, S7, S8, S9, S10, S11, S12, S13, S14, S15, S16, S17, opv, opvs, eget, env0, setD, lenStr, lenSl, isNilP, isNilS, putAt, if_true, if_false, reduceCtorEq, Nat.reduceLeDiff, Nat.reduceEqDiff, Nat.reduceSub, Nat.reduceMul, Nat.reduceAdd]
    refine call_by (by rw [List.append_nil]; exact pick_n l hl (p + 1) 4 id (by omega) (by omega) (by omega) _ ((Kp.app S _).box hSid)) ?_
    rintro r σ' ⟨y, rfl, hy, rfl⟩
    have hset2 : ∀ o τ, (S ++ τ : Store).set id o = S.set id o ++ τ := fun o τ => List.set_append_left _ _ (by omega)
    rw [hset2]
    simp -implicitDefEqProofs only [cond_t, cond_f, S0, S1, S2, S3, S4, S5, S6, S7, S8, S9, S10, S11, S12, S13, S14, S15, S16, S17, opv, opvs, eget, env0, setD, lenStr, lenSl, isNilP, isNilS, putAt, if_true, if_false, reduceCtorEq, Nat.reduceLeDiff, Nat.reduceEqDiff, Nat.reduceSub, Nat.reduceMul, Nat.reduceAdd]
    refine cond_split (fun hy0 => ?_) (fun hy0 => ?_)
    · have b7 : ru.Default.length * 16 ≤ maxBy := by simp only [maxBy]; omega
      have b8 : ru.Default.length ≤ 9223372036854775807 := by omega
      obtain ⟨R1, hR1⟩ : ∃ R1, R1 = S.set id (.box (rdV l (p + 1 + 1))) := ⟨_, rfl⟩
      have hR1l : R1.length = S.length := by rw [hR1, List.length_set]
      have hR1id : R1[id]? = some (.box (rdV l (p + 1 + 1))) := by rw [hR1]; exact List.getElem?_set_self (by omega)
      have hR1k : Kb [id] σ R1 := by rw [hR1]; exact Kb.trans hSk (by omega) Kb.setId
      rw [← hR1, ← hR1l]
      simp -implicitDefEqProofs only [b7, b8, List.length_map, S0, S1, S2, S3, S4, S5, S6, S7, S8, S9, S10, S11, S12, S13, S14, S15, S16, S17, opv, opvs, eget, env0, setD, lenStr, lenSl, isNilP, isNilS, putAt, if_true, if_false, reduceCtorEq, Nat.reduceLeDiff, Nat.reduceEqDiff, Nat.reduceSub, Nat.reduceMul, Nat.reduceAdd]
      refine fin_keep (by first | omega | (simp; done) | (simp; omega)) ⟨ru.Key, ru.Default, _, [R1.length + 3], p + 1 + 1, rfl, hkl, by omega, by omega, ⟨by simp; omega, ?_, ?_, own_strs ?_ rfl, noRows_sl, ?_, fun w hw => by have := m5 w hw; omega⟩⟩
      · exact (Kp.app R1 _).box hR1id
      · exact Kb.trans hR1k (by omega) (Kb.le (Kp.app R1 _))
      · rw [List.getElem?_append_right (by omega), Nat.add_sub_cancel_left]; rfl
      · exact ⟨by simp, fun x hx => by simp at hx; subst hx; simp; omega⟩
    · skip
      rw [← hN]
      have hR1l : (S.set id (.box (rdV l (p + 1 + 1)))).length = N := by simp [hN]
      have hR1id : (S.set id (.box (rdV l (p + 1 + 1))))[id]? = some (.box (rdV l (p + 1 + 1))) := by first | exact hSid | exact List.getElem?_set_self (by omega)
      have hR1k : Kb [id] σ (S.set id (.box (rdV l (p + 1 + 1)))) := by first | exact hSk | exact Kb.trans hSk (by omega) Kb.setId
      obtain ⟨R1, hR1⟩ : ∃ R1, R1 = S.set id (.box (rdV l (p + 1 + 1))) := ⟨_, rfl⟩
      rw [← hR1] at hR1l hR1id hR1k ⊢
      refine loop_g [8, 0, 4, 6, 7] [0, 4, 6, 7] (fun g : Gd => [(8, .t (.int .i64 (g.i : Nat)))]) Gd.s (fun g => g.i ≤ ru.Args.length ∧ g.ws.length = g.i ∧ g.q ≤ p + 2 + 2 * g.i ∧ DW σ l id g.q g.ws g.v g.is (N + 3) g.s ∧ g.s[N]? = some (.box [.t (.str []), .nils]) ∧ g.s[N + 1]? = some (.box [.t (.str ru.Key), .t (.lst 1 (ru.Args.map tInt)), .t (.bool false), .t (.lst 1 (ru.Default.map tStr))]) ∧ g.s[N + 2]? = some (.box [.t (.str ru.Key), g.v])) (fun g => ru.Args.length - g.i) ⟨0, (p + 1 + 1), [], .nils, [], R1 ++ [.box [.t (.str []), .nils], .box [.t (.str ru.Key), .t (.lst 1 (ru.Args.map tInt)), .t (.bool false), .t (.lst 1 (ru.Default.map tStr))], .box [.t (.str ru.Key), .nils]]⟩ (by simp; omega) ⟨Nat.zero_le _, rfl, by simp only; omega, ⟨by simp [hR1l], (Kp.app R1 _).box hR1id, Kb.trans hR1k (by omega) (Kb.le (Kp.app R1 _)), by simp [Own], noRows_nils, Wi.nil, by simp⟩, by simp [← hR1l], by simp [← hR1l], by simp [← hR1l]⟩ rfl rfl ?_
      rintro ⟨i, q, ws, v, is, s⟩ ⟨hi, hwl, hq, hdw, e4, e5, e6⟩
      simp only at hi hwl hq hdw e4 e5 e6
      have hone := hdw.one
      have hsl3 := hdw.le
      simp -implicitDefEqProofs only [keep, e5, List.length_map, S0, S1, S2, S3, S4, S5, S6, S7, S8, S9, S10, S11, S12, S13, S14, S15, S16, S17, opv, opvs, eget, env0, setD, lenStr, lenSl, isNilP, isNilS, putAt, if_true, if_false, reduceCtorEq, Nat.reduceLeDiff, Nat.reduceEqDiff, Nat.reduceSub, Nat.reduceMul, Nat.reduceAdd]
      refine cond_split (fun h1 => ?_) (fun h1 => ?_)
      · obtain ⟨t, ht, hlt⟩ := at_of h1
        have more := i64_succ (show i < 4611686018427387904 by omega)
        simp -implicitDefEqProofs only [keep, e5, e6, hone, ht, nat_nn, Nat.zero_le, List.getElem?_map, Option.map_some, tInt, List.map_cons, List.map_nil, S0, S1, S2, S3, S4, S5, S6, S7, S8, S9, S10, S11, S12, S13, S14, S15, S16, S17, opv, opvs, eget, env0, setD, lenStr, lenSl, isNilP, isNilS, putAt, if_true, if_false, reduceCtorEq, Nat.reduceLeDiff, Nat.reduceEqDiff, Nat.reduceSub, Nat.reduceMul, Nat.reduceAdd]
        refine call_by (by rw [List.append_nil]; exact draw_word l hl q id (by omega) t _ hdw.rd) ?_
        rintro r σ' ⟨w, q', rfl, hw, hq', rfl⟩
        have e6b : ∀ o : Go.Ab.Obj, (s.set id o)[N + 2]? = some (.box [.t (.str ru.Key), v]) := fun o => by rw [List.getElem?_set_ne (by omega)]; exact e6
        have hrow : ∀ (s : Store) (w : List UInt8), rowsOf s 1 (.rows 1 [[.t (.str w)]]) = some [[.t (.str w)]] := fun s w => rowsOf_rows rfl
        have c1 : 0 < 1 := by omega
        obtain ⟨s1, hs1⟩ : ∃ s1, s1 = s.set id (.box (rdV l q')) := ⟨_, rfl⟩
        have e6c : s1[N + 2]? = some (.box [.t (.str ru.Key), v]) := by rw [hs1]; exact e6b _
        have hs1l : s1.length = s.length := by rw [hs1, List.length_set]
        rw [← hs1]
        simp -implicitDefEqProofs only [e6c, hrow, c1, hone, S0, S1, S2, S3, S4, S5, S6, S7, S8, S9, S10, S11, S12, S13, S14, S15, S16, S17, opv, opvs, eget, env0, setD, lenStr, lenSl, isNilP, isNilS, putAt, if_true, if_false, reduceCtorEq, Nat.reduceLeDiff, Nat.reduceEqDiff, Nat.reduceSub, Nat.reduceMul, Nat.reduceAdd]
        refine And.intro (.inr ?_) ?_
        · refine ⟨fun _ => ⟨_, v, rfl, rfl, ?_⟩, trivial⟩
          simp -implicitDefEqProofs only [ev, eqK, e6c, hone, evLoad, onV, onBox, ldV, S0, S1, S2, S3, S4, S5, S6, S7, S8, S9, S10, S11, S12, S13, S14, S15, S16, S17, opv, opvs, eget, env0, setD, lenStr, lenSl, isNilP, isNilS, putAt, if_true, if_false, reduceCtorEq, Nat.reduceLeDiff, Nat.reduceEqDiff, Nat.reduceSub, Nat.reduceMul, Nat.reduceAdd]
        try simp -implicitDefEqProofs only [e6c, hrow, c1, hone, S0, S1, S2, S3, S4, S5, S6, S7, S8, S9, S10, S11, S12, S13, S14, S15, S16, S17, opv, opvs, eget, env0, setD, lenStr, lenSl, isNilP, isNilS, putAt, if_true, if_false, reduceCtorEq, Nat.reduceLeDiff, Nat.reduceEqDiff, Nat.reduceSub, Nat.reduceMul, Nat.reduceAdd]
        have hidn : id ∉ is := fun hm => by have := hdw.wi.2 id hm; omega
        have hge : ∀ x ∈ is, N + 3 ≤ x := fun x hx => (hdw.wi.2 x hx).1
        refine app_own (rows := ws.map tStr) (r := [.str w]) (is := is) (js := []) (a := N + 3) (hdw.own.frame fun j hj => by rw [hs1]; exact List.getElem?_set_ne (fun e => hidn (by rw [e]; exact hj))) hdw.nr (by rw [hs1l]; exact hdw.wi) (ownL_flat [T.str w] (by simp [scalar])) Wi.nil (fun _ _ => by simp) (by omega) (by rw [List.length_map]; simp only [maxBy]; omega) (by rw [List.length_map]; omega) ?_
        intro v' s2 is' hle2 kb2 ho2 hnr2 hw2
        have hone2 := ho2.one
        have k1 : ∀ x, x < N + 3 → x ≠ id → s2[x]? = s[x]? := fun x hx hxi => by
          rw [kb2 x (by omega) (fun hm => by have := hge x hm; omega), hs1, List.getElem?_set_ne (fun e => hxi e.symm)]
        have kid : s2[id]? = some (.box (rdV l q')) := by
          rw [kb2 id (by omega) hidn, hs1]; exact List.getElem?_set_self (by omega)
        have g6 : s2[N + 2]? = some (.box [.t (.str ru.Key), v]) := (k1 _ (by omega) (by omega)).trans e6
        simp -implicitDefEqProofs only [g6, hone, hone2, one_cells hone, one_cells hone2, more, S0, S1, S2, S3, S4, S5, S6, S7, S8, S9, S10, S11, S12, S13, S14, S15, S16, S17, opv, opvs, eget, env0, setD, lenStr, lenSl, isNilP, isNilS, putAt, if_true, if_false, reduceCtorEq, Nat.reduceLeDiff, Nat.reduceEqDiff, Nat.reduceSub, Nat.reduceMul, Nat.reduceAdd]
        refine lk_g ⟨i + 1, q', ws ++ [w], v', is', s2.set (N + 2) (.box [.t (.str ru.Key), v'])⟩ (by simp only; omega) ⟨by simp only; omega, by simp [hwl], by simp only; omega, ⟨by simp; omega, by rw [List.getElem?_set_ne (by omega)]; exact kid, fun x hx hxi => ?_, ?_, hnr2, by rw [List.length_set]; exact hw2, fun y hy => ?_⟩, by rw [List.getElem?_set_ne (by omega)]; exact (k1 _ (by omega) (by omega)).trans e4, by rw [List.getElem?_set_ne (by omega)]; exact (k1 _ (by omega) (by omega)).trans e5, List.getElem?_set_self (by omega)⟩ (by simp; omega) rfl rfl
        · have hxi' : x ≠ id := by simpa using hxi
          simp only
          rw [List.getElem?_set_ne (by omega), k1 x (by omega) hxi']
          exact hdw.kp x hx hxi
        · have : (ws ++ [w]).map tStr = ws.map tStr ++ [[.str w]] := by simp [tStr]
          simp only [tStrs, this]
          exact ho2.frame fun x hx => by have := hw2.2 x hx; rw [List.getElem?_set_ne (by omega)]
        · rcases List.mem_append.1 hy with hy | hy
          · exact hdw.sm y hy
          · simp at hy; subst hy; omega
      · have hii := end_of h1 hi
        have e4t : ∀ o : Go.Ab.Obj, (s.set N o)[N]? = some o := fun o => List.getElem?_set_self (by omega)
        simp -implicitDefEqProofs only [e4, e5, e6, e4t, hone, one_cells hone, S0, S1, S2, S3, S4, S5, S6, S7, S8, S9, S10, S11, S12, S13, S14, S15, S16, S17, opv, opvs, eget, env0, setD, lenStr, lenSl, isNilP, isNilS, putAt, if_true, if_false, reduceCtorEq, Nat.reduceLeDiff, Nat.reduceEqDiff, Nat.reduceSub, Nat.reduceMul, Nat.reduceAdd]
        refine fin_keep (by simp; omega) ⟨ru.Key, ws, v, is, q, rfl, hkl, by omega, by omega, ⟨by simp; omega, by rw [List.getElem?_set_ne (by omega)]; exact hdw.rd, fun x hx hxi => ?_, hdw.own.frame fun x hx => ?_, hdw.nr, by rw [List.length_set]; exact hdw.wi.mono (by omega) (Nat.le_refl _), hdw.sm⟩⟩
        · rw [List.getElem?_set_ne (by omega)]; exact hdw.kp x hx hxi
        · have := hdw.wi.2 x hx
          rw [List.getElem?_set_ne (by omega)]
  · simp -implicitDefEqProofs only [cond_t, cond_f, S0, S1, S2, S3, S4, S5, S6, S7, S8, S9, S10, S11, S12, S13, S14, S15, S16, S17, opv, opvs, eget, env0, setD, lenStr, lenSl, isNilP, isNilS, putAt, if_true, if_false, reduceCtorEq, Nat.reduceLeDiff, Nat.reduceEqDiff, Nat.reduceSub, Nat.reduceMul, Nat.reduceAdd]
    rw [← hN]
    have hR1l : (S).length = N := by simp [hN]
    have hR1id : (S)[id]? = some (.box (rdV l (p + 1))) := by first | exact hSid | exact List.getElem?_set_self (by omega)
    have hR1k : Kb [id] σ (S) := by first | exact hSk | exact Kb.trans hSk (by omega) Kb.setId
    obtain ⟨R1, hR1⟩ : ∃ R1, R1 = S := ⟨_, rfl⟩
    rw [← hR1] at hR1l hR1id hR1k ⊢
    refine loop_g [8, 0, 4, 6, 7] [0, 4, 6, 7] (fun g : Gd => [(8, .t (.int .i64 (g.i : Nat)))]) Gd.s (fun g => g.i ≤ ru.Args.length ∧ g.ws.length = g.i ∧ g.q ≤ p + 2 + 2 * g.i ∧ DW σ l id g.q g.ws g.v g.is (N + 3) g.s ∧ g.s[N]? = some (.box [.t (.str []), .nils]) ∧ g.s[N + 1]? = some (.box [.t (.str ru.Key), .t (.lst 1 (ru.Args.map tInt)), .t (.bool true), .t (.lst 1 (ru.Default.map tStr))]) ∧ g.s[N + 2]? = some (.box [.t (.str ru.Key), g.v])) (fun g => ru.Args.length - g.i) ⟨0, (p + 1), [], .nils, [], R1 ++ [.box [.t (.str []), .nils], .box [.t (.str ru.Key), .t (.lst 1 (ru.Args.map tInt)), .t (.bool true), .t (.lst 1 (ru.Default.map tStr))], .box [.t (.str ru.Key), .nils]]⟩ (by simp; omega) ⟨Nat.zero_le _, rfl, by simp only; omega, ⟨by simp [hR1l], (Kp.app R1 _).box hR1id, Kb.trans hR1k (by omega) (Kb.le (Kp.app R1 _)), by simp [Own], noRows_nils, Wi.nil, by simp⟩, by simp [← hR1l], by simp [← hR1l], by simp [← hR1l]⟩ rfl rfl ?_
    rintro ⟨i, q, ws, v, is, s⟩ ⟨hi, hwl, hq, hdw, e4, e5, e6⟩
    simp only at hi hwl hq hdw e4 e5 e6
    have hone := hdw.one
    have hsl3 := hdw.le
    simp -implicitDefEqProofs only [keep, e5, List.length_map, S0, S1, S2, S3, S4, S5, S6, S7, S8, S9, S10, S11, S12, S13, S14, S15, S16, S17, opv, opvs, eget, env0, setD, lenStr, lenSl, isNilP, isNilS, putAt, if_true, if_false, reduceCtorEq, Nat.reduceLeDiff, Nat.reduceEqDiff, Nat.reduceSub, Nat.reduceMul, Nat.reduceAdd]
    refine cond_split (fun h1 => ?_) (fun h1 => ?_)
    · obtain ⟨t, ht, hlt⟩ := at_of h1
      have more := i64_succ (show i < 4611686018427387904 by omega)
      simp -implicitDefEqProofs only [keep, e5, e6, hone, ht, nat_nn, Nat.zero_le, List.getElem?_map, Option.map_some, tInt, List.map_cons, List.map_nil, S0, S1, S2, S3, S4, S5, S6, S7, S8, S9, S10, S11, S12, S13, S14, S15, S16, S17, opv, opvs, eget, env0, setD, lenStr, lenSl, isNilP, isNilS, putAt, if_true, if_false, reduceCtorEq, Nat.reduceLeDiff, Nat.reduceEqDiff, Nat.reduceSub, Nat.reduceMul, Nat.reduceAdd]
      refine call_by (by rw [List.append_nil]; exact draw_word l hl q id (by omega) t _ hdw.rd) ?_
      rintro r σ' ⟨w, q', rfl, hw, hq', rfl⟩
      have e6b : ∀ o : Go.Ab.Obj, (s.set id o)[N + 2]? = some (.box [.t (.str ru.Key), v]) := fun o => by rw [List.getElem?_set_ne (by omega)]; exact e6
      have hrow : ∀ (s : Store) (w : List UInt8), rowsOf s 1 (.rows 1 [[.t (.str w)]]) = some [[.t (.str w)]] := fun s w => rowsOf_rows rfl
      have c1 : 0 < 1 := by omega
      obtain ⟨s1, hs1⟩ : ∃ s1, s1 = s.set id (.box (rdV l q')) := ⟨_, rfl⟩
      have e6c : s1[N + 2]? = some (.box [.t (.str ru.Key), v]) := by rw [hs1]; exact e6b _
      have hs1l : s1.length = s.length := by rw [hs1, List.length_set]
      rw [← hs1]
      simp -implicitDefEqProofs only [e6c, hrow, c1, hone, S0, S1, S2, S3, S4, S5, S6, S7, S8, S9, S10, S11, S12, S13, S14, S15, S16, S17, opv, opvs, eget, env0, setD, lenStr, lenSl, isNilP, isNilS, putAt, if_true, if_false, reduceCtorEq, Nat.reduceLeDiff, Nat.reduceEqDiff, Nat.reduceSub, Nat.reduceMul, Nat.reduceAdd]
      refine And.intro (.inr ?_) ?_
      · refine ⟨fun _ => ⟨_, v, rfl, rfl, ?_⟩, trivial⟩
        simp -implicitDefEqProofs only [ev, eqK, e6c, hone, evLoad, onV, onBox, ldV, S0, S1, S2, S3, S4, S5, S6, S7, S8, S9, S10, S11, S12, S13, S14, S15, S16, S17, opv, opvs, eget, env0, setD, lenStr, lenSl, isNilP, isNilS, putAt, if_true, if_false, reduceCtorEq, Nat.reduceLeDiff, Nat.reduceEqDiff, Nat.reduceSub, Nat.reduceMul, Nat.reduceAdd]
      try simp -implicitDefEqProofs only [e6c, hrow, c1, hone, S0, S1, S2, S3, S4, S5, S6, S7, S8, S9, S10, S11, S12, S13, S14, S15, S16, S17, opv, opvs, eget, env0, setD, lenStr, lenSl, isNilP, isNilS, putAt, if_true, if_false, reduceCtorEq, Nat.reduceLeDiff, Nat.reduceEqDiff, Nat.reduceSub, Nat.reduceMul, Nat.reduceAdd]
      have hidn : id ∉ is := fun hm => by have := hdw.wi.2 id hm; omega
      have hge : ∀ x ∈ is, N + 3 ≤ x := fun x hx => (hdw.wi.2 x hx).1
      refine app_own (rows := ws.map tStr) (r := [.str w]) (is := is) (js := []) (a := N + 3) (hdw.own.frame fun j hj => by rw [hs1]; exact List.getElem?_set_ne (fun e => hidn (by rw [e]; exact hj))) hdw.nr (by rw [hs1l]; exact hdw.wi) (ownL_flat [T.str w] (by simp [scalar])) Wi.nil (fun _ _ => by simp) (by omega) (by rw [List.length_map]; simp only [maxBy]; omega) (by rw [List.length_map]; omega) ?_
      intro v' s2 is' hle2 kb2 ho2 hnr2 hw2
      have hone2 := ho2.one
      have k1 : ∀ x, x < N + 3 → x ≠ id → s2[x]? = s[x]? := fun x hx hxi => by
        rw [kb2 x (by omega) (fun hm => by have := hge x hm; omega), hs1, List.getElem?_set_ne (fun e => hxi e.symm)]
      have kid : s2[id]? = some (.box (rdV l q')) := by
        rw [kb2 id (by omega) hidn, hs1]; exact List.getElem?_set_self (by omega)
      have g6 : s2[N + 2]? = some (.box [.t (.str ru.Key), v]) := (k1 _ (by omega) (by omega)).trans e6
      simp -implicitDefEqProofs only [g6, hone, hone2, one_cells hone, one_cells hone2, more, S0, S1, S2, S3, S4, S5, S6, S7, S8, S9, S10, S11, S12, S13, S14, S15, S16, S17, opv, opvs, eget, env0, setD, lenStr, lenSl, isNilP, isNilS, putAt, if_true, if_false, reduceCtorEq, Nat.reduceLeDiff, Nat.reduceEqDiff, Nat.reduceSub, Nat.reduceMul, Nat.reduceAdd]
      refine lk_g ⟨i + 1, q', ws ++ [w], v', is', s2.set (N + 2) (.box [.t (.str ru.Key), v'])⟩ (by simp only; omega) ⟨by simp only; omega, by simp [hwl], by simp only; omega, ⟨by simp; omega, by rw [List.getElem?_set_ne (by omega)]; exact kid, fun x hx hxi => ?_, ?_, hnr2, by rw [List.length_set]; exact hw2, fun y hy => ?_⟩, by rw [List.getElem?_set_ne (by omega)]; exact (k1 _ (by omega) (by omega)).trans e4, by rw [List.getElem?_set_ne (by omega)]; exact (k1 _ (by omega) (by omega)).trans e5, List.getElem?_set_self (by omega)⟩ (by simp; omega) rfl rfl
      · have hxi' : x ≠ id := by simpa using hxi
        simp only
        rw [List.getElem?_set_ne (by omega), k1 x (by omega) hxi']
        exact hdw.kp x hx hxi
      · have : (ws ++ [w]).map tStr = ws.map tStr ++ [[.str w]] := by simp [tStr]
        simp only [tStrs, this]
        exact ho2.frame fun x hx => by have := hw2.2 x hx; rw [List.getElem?_set_ne (by omega)]
      · rcases List.mem_append.1 hy with hy | hy
        · exact hdw.sm y hy
        · simp at hy; subst hy; omega
    · have hii := end_of h1 hi
      have e4t : ∀ o : Go.Ab.Obj, (s.set N o)[N]? = some o := fun o => List.getElem?_set_self (by omega)
      simp -implicitDefEqProofs only [e4, e5, e6, e4t, hone, one_cells hone, S0, S1, S2, S3, S4, S5, S6, S7, S8, S9, S10, S11, S12, S13, S14, S15, S16, S17, opv, opvs, eget, env0, setD, lenStr, lenSl, isNilP, isNilS, putAt, if_true, if_false, reduceCtorEq, Nat.reduceLeDiff, Nat.reduceEqDiff, Nat.reduceSub, Nat.reduceMul, Nat.reduceAdd]
      refine fin_keep (by simp; omega) ⟨ru.Key, ws, v, is, q, rfl, hkl, by omega, by omega, ⟨by simp; omega, by rw [List.getElem?_set_ne (by omega)]; exact hdw.rd, fun x hx hxi => ?_, hdw.own.frame fun x hx => ?_, hdw.nr, by rw [List.length_set]; exact hdw.wi.mono (by omega) (Nat.le_refl _), hdw.sm⟩⟩
      · rw [List.getElem?_set_ne (by omega)]; exact hdw.kp x hx hxi
      · have := hdw.wi.2 x hx
        rw [List.getElem?_set_ne (by omega)]

end Go.Proofs.YtkppdeobinefbaaDoor.W

end


section
open Go Go.Ab
set_option maxHeartbeats 2000000
namespace Go.Proofs.YtkppdeobinefbaaDoor.W
structure FitsR (σ : Store) (r : V) (σ' : Store) : Prop where
  is : ∃ (kind key : List UInt8) (ws : List (List UInt8)) (v : V) (is : List Nat) (τ : Store), r = .tup [.t (.str kind), .t (.str key), v] ∧ σ' = σ ++ τ ∧ Own σ' (tStrs ws) v is ∧ kind.length ≤ 20 ∧ key.length ≤ 20 ∧ ws.length ≤ 9 ∧ ∀ w ∈ ws, w.length ≤ 201
theorem fits_end {σ s : Store} {kind key : List UInt8} {ws : List (List UInt8)} {v : V} {is : List Nat} (hk : Kp σ s) (hl : σ.length ≤ s.length) (ho : Own s (tStrs ws) v is) (h1 : kind.length ≤ 20) (h2 : key.length ≤ 20) (h3 : ws.length ≤ 9) (h4 : ∀ w ∈ ws, w.length ≤ 201) : FitsR σ (.tup [.t (.str kind), .t (.str key), v]) s :=
  ⟨_, _, _, _, _, _, rfl, kp_split hk hl, ho, h1, h2, h3, h4⟩
theorem strs_row {s : Store} {ws : List (List UInt8)} {v : V} {is : List Nat} (h : Own s (tStrs ws) v is) (hn : ws ≠ []) : ∃ id, is = [id] ∧ v = .sl id ws.length 0 ws.length ∧ s[id]? = some (.slc 1 ((ws.map tStr).map fun r => r.map V.t)) := by
  rcases own_obj h (tStr_flat ws) with ⟨h0, _, _⟩ | ⟨id, h1, h2, h3⟩
  · exact (hn (by simpa using h0)).elim
  · rw [List.length_map] at h2; exact ⟨id, h1, h2, h3⟩
theorem rows_set (ws : List (List UInt8)) (k : Nat) (d : List UInt8) : (Go.Ab.Obj.slc 1 (((ws.map tStr).map fun r => r.map V.t).set k [.t (.str d)])) = tObj 1 ((ws.set k d).map tStr) := by
  simp [tObj, List.map_set, tStr]
theorem box_out {s : Store} {ws : List (List UInt8)} {v : V} {is : List Nat} {X : Nat} {c : List V} (h : Own s (tStrs ws) v is) (hb : s[X]? = some (.box c)) : X ∉ is := by
  rcases own_obj h (tStr_flat ws) with ⟨_, h1, _⟩ | ⟨id, h1, h2, h3⟩
  · rw [h1]; simp
  · rw [h1]
    intro hm
    simp only [List.mem_singleton] at hm
    subst hm
    rw [h3] at hb
    cases hb
theorem rd_len {s : Store} {id : Nat} {o : Go.Ab.Obj} (h : s[id]? = some o) : id < s.length := (List.getElem?_eq_some_iff.1 h).1

def c_spec_DrawSheetRules : C := (.seq (.ops [⟨(some 2), none, (.mv (.c (.t (.str []))))⟩]) (.seq (.ops [⟨(some 3), none, (.lit none 1 6 [(.t (.str []))] [⟨0, (.c (.t (.str [116, 101, 97, 109])))⟩, ⟨1, (.c (.t (.str [98, 101, 114, 116, 104])))⟩, ⟨2, (.c (.t (.str [115, 101, 114, 118, 105, 99, 101])))⟩, ⟨3, (.c (.t (.str [])))⟩, ⟨4, (.c (.t (.str [110, 111, 110, 101])))⟩, ⟨5, (.c (.t (.str [84, 101, 97, 109])))⟩])⟩, ⟨(some 4), none, (.mv (.t 0))⟩, ⟨(some 5), none, (.call (.c (.fn (.func 56) [])) [(.t 4)])⟩, ⟨(some 6), none, (.call (.c (.fn (.func 57) [])) [(.t 5), (.c (.t (.int .i64 6)))])⟩, ⟨(some 7), none, (.indexAddr 1 (.t 3) (.t 6))⟩, ⟨(some 8), none, (.load none (.t 7))⟩, ⟨(some 2), none, (.mv (.t 8))⟩]) .ret))
theorem k_spec_DrawSheetRules : comp Tryd.prog 9 (Tryd.f17.body.getD .skip) = some c_spec_DrawSheetRules := by kernel_rfl

theorem draw_kind (c : List UInt8) (σ : Store) : ACalls Tryd.prog 17 [.t (.lst 1 (byteT c))] σ fun r σ' => ∃ k : List UInt8, r = .t (.str k) ∧ σ' = σ ∧ k.length ≤ 20 := by
  refine acalls_of Tryd.func17 (by decide +kernel) (code := Tryd.f17.body.getD .skip) (n := 9) (c := c_spec_DrawSheetRules) (rs := [(.tmp 2)]) rfl rfl k_spec_DrawSheetRules (by kernel_rfl) (by simp) (fun hσ => ?_)
  have c1 : 0 < 6 ∧ 1 < 6 ∧ 2 < 6 ∧ 3 < 6 ∧ 4 < 6 ∧ 5 < 6 := by omega
  simp -implicitDefEqProofs only [c_spec_DrawSheetRules, c1, List.replicate, S0, S1, S2, S3, S4, S5, S6, S7, S8, S9, S10, S11, S12, S13, S14, S15, S16, S17, opv, opvs, eget, env0, setD, lenStr, lenSl, isNilP, isNilS, putAt, if_true, if_false, reduceCtorEq, Nat.reduceLeDiff, Nat.reduceEqDiff, Nat.reduceSub, Nat.reduceMul, Nat.reduceAdd]
  refine lit_rows ?_
  simp -implicitDefEqProofs only [S0, S1, S2, S3, S4, S5, S6, S7, S8, S9, S10, S11, S12, S13, S14, S15, S16, S17, opv, opvs, eget, env0, setD, lenStr, lenSl, isNilP, isNilS, putAt, if_true, if_false, reduceCtorEq, Nat.reduceLeDiff, Nat.reduceEqDiff, Nat.reduceSub, Nat.reduceMul, Nat.reduceAdd]
  refine call_by (by rw [List.append_nil]; exact open_rd c _) ?_
  rintro r σ' ⟨l, hl, rfl, rfl⟩
  simp -implicitDefEqProofs only [S0, S1, S2, S3, S4, S5, S6, S7, S8, S9, S10, S11, S12, S13, S14, S15, S16, S17, opv, opvs, eget, env0, setD, lenStr, lenSl, isNilP, isNilS, putAt, if_true, if_false, reduceCtorEq, Nat.reduceLeDiff, Nat.reduceEqDiff, Nat.reduceSub, Nat.reduceMul, Nat.reduceAdd]
  refine call_by (by rw [List.append_nil]; exact pick_n l hl 0 6 σ.length (by omega) (by omega) (by omega) _ (by simp)) ?_
  rintro r σ' ⟨y, rfl, hy, rfl⟩
  simp -implicitDefEqProofs only [nat_nn, Nat.zero_le, Int.toNat_natCast, S0, S1, S2, S3, S4, S5, S6, S7, S8, S9, S10, S11, S12, S13, S14, S15, S16, S17, opv, opvs, eget, env0, setD, lenStr, lenSl, isNilP, isNilS, putAt, if_true, if_false, reduceCtorEq, Nat.reduceLeDiff, Nat.reduceEqDiff, Nat.reduceSub, Nat.reduceMul, Nat.reduceAdd]
  refine pick_row (m := 20) (by decide) (by simpa using hy) ?_
  intro w hw
  simp -implicitDefEqProofs only [S0, S1, S2, S3, S4, S5, S6, S7, S8, S9, S10, S11, S12, S13, S14, S15, S16, S17, opv, opvs, eget, env0, setD, lenStr, lenSl, isNilP, isNilS, putAt, if_true, if_false, reduceCtorEq, Nat.reduceLeDiff, Nat.reduceEqDiff, Nat.reduceSub, Nat.reduceMul, Nat.reduceAdd]
  exact ret_same rfl hσ rfl ⟨w, rfl, rfl, hw⟩

def c_spec_DrawSheetFits : C := (.seq (.ops [⟨(some 2), none, (.mv (.c (.t (.str []))))⟩, ⟨(some 3), none, (.mv (.c (.t (.str []))))⟩, ⟨(some 4), none, (.mv (.c .nils))⟩]) (.seq (.ops [⟨(some 8), none, (.mv (.t 0))⟩, ⟨(some 9), none, (.call (.c (.fn (.func 56) [])) [(.t 8)])⟩, ⟨(some 5), none, (.mv (.t 9))⟩]) (.seq (.ops [⟨(some 10), none, (.lit none 1 3 [(.t (.str []))] [⟨0, (.c (.t (.str [116, 101, 97, 109])))⟩, ⟨1, (.c (.t (.str [98, 101, 114, 116, 104])))⟩, ⟨2, (.c (.t (.str [115, 101, 114, 118, 105, 99, 101])))⟩])⟩, ⟨(some 11), none, (.mv (.t 5))⟩, ⟨(some 12), none, (.call (.c (.fn (.func 57) [])) [(.t 11), (.c (.t (.int .i64 3)))])⟩, ⟨(some 13), none, (.indexAddr 1 (.t 10) (.t 12))⟩, ⟨(some 14), none, (.load none (.t 13))⟩, ⟨(some 6), none, (.mv (.t 14))⟩]) (.seq (.ops [⟨(some 15), none, (.mv (.t 5))⟩, ⟨(some 16), none, (.mv (.t 6))⟩, ⟨(some 17), none, (.call (.c (.fn (.func 60) [])) [(.t 15), (.t 16)])⟩, ⟨(some 7), none, (.new [(.t (.str [])), .nils])⟩, ⟨none, none, (.store 2 (.t 7) (.t 17))⟩]) (.seq (.seq (.ops [⟨(some 18), none, (.mv (.t 5))⟩, ⟨(some 19), none, (.call (.c (.fn (.func 57) [])) [(.t 18), (.c (.t (.int .i64 2)))])⟩, ⟨(some 20), none, (.bin .eql (.t 19) (.c (.t (.int .i64 0))))⟩, ⟨(some 21), none, (.mv (.t 20))⟩, ⟨(some 22), (some ⟨21, true⟩), (.fieldAddr 1 (.t 7))⟩, ⟨(some 23), (some ⟨21, true⟩), (.load none (.t 22))⟩, ⟨(some 24), (some ⟨21, true⟩), (.len false (.t 23))⟩, ⟨(some 25), (some ⟨21, true⟩), (.bin .gtr (.t 24) (.c (.t (.int .i64 0))))⟩, ⟨(some 26), none, (.pick (.t 21) (.t 25) (.c (.t (.bool false))))⟩]) (.cond (.t 26) (.drawn [(.mk 0 false ⟨(some 27), none, (.fieldAddr 1 (.t 7))⟩ []), (.mk 1 false ⟨(some 28), none, (.load none (.t 27))⟩ []), (.mk 2 false ⟨(some 29), none, (.mv (.t 5))⟩ []), (.mk 3 false ⟨(some 30), none, (.fieldAddr 1 (.t 7))⟩ []), (.mk 4 false ⟨(some 31), none, (.load none (.t 30))⟩ []), (.mk 5 false ⟨(some 32), none, (.len false (.t 31))⟩ []), (.mk 7 false ⟨(some 34), none, (.mv (.t 5))⟩ []), (.mk 6 true ⟨(some 33), none, (.call (.c (.fn (.func 57) [])) [(.t 29), (.t 32)])⟩ [⟨(some 28), none, (.load none (.t 27))⟩]), (.mk 8 true ⟨(some 35), none, (.call (.c (.fn (.func 61) [])) [(.t 34)])⟩ [⟨(some 28), none, (.load none (.t 27))⟩]), (.mk 9 false ⟨(some 36), none, (.indexAddr 1 (.t 28) (.t 33))⟩ []), (.mk 10 false ⟨none, none, (.store 1 (.t 36) (.t 35))⟩ [])]) .skip)) (.seq (.seq (.ops [⟨(some 37), none, (.mv (.t 5))⟩, ⟨(some 38), none, (.call (.c (.fn (.func 57) [])) [(.t 37), (.c (.t (.int .i64 10)))])⟩]) (.block 0 (.seq (.ops [⟨(some 40), none, (.bin .eql (.t 38) (.c (.t (.int .i64 0))))⟩, ⟨(some 39), none, (.mv (.t 40))⟩]) (.cond (.t 39) (.ops [⟨(some 41), none, (.fieldAddr 1 (.t 7))⟩, ⟨(some 42), none, (.load none (.t 41))⟩, ⟨(some 43), none, (.lit none 1 1 [(.t (.str []))] [⟨0, (.c (.t (.str [49])))⟩])⟩, ⟨(some 44), none, (.append 1 16 (.t 42) (.t 43))⟩, ⟨(some 45), none, (.fieldAddr 1 (.t 7))⟩, ⟨none, none, (.store 1 (.t 45) (.t 44))⟩]) (.seq (.ops [⟨(some 47), none, (.bin .eql (.t 38) (.c (.t (.int .i64 1))))⟩, ⟨(some 46), none, (.mv (.t 47))⟩]) (.cond (.t 46) (.seq (.drawn [(.mk 0 false ⟨(some 48), none, (.lit (some false) 1 2 [(.t (.str []))] [⟨0, (.c (.t (.str [110, 111, 110, 101])))⟩, ⟨1, (.c (.t (.str [])))⟩])⟩ []), (.mk 1 false ⟨(some 49), none, (.mv (.t 5))⟩ []), (.mk 5 false ⟨(some 53), none, (.fieldAddr 0 (.t 7))⟩ []), (.mk 6 false ⟨(some 54), none, (.load none (.t 53))⟩ []), (.mk 7 false ⟨(some 55), none, (.fieldAddr 1 (.t 7))⟩ []), (.mk 8 false ⟨(some 56), none, (.load none (.t 55))⟩ []), (.mk 2 true ⟨(some 50), none, (.call (.c (.fn (.func 57) [])) [(.t 49), (.c (.t (.int .i64 2)))])⟩ [⟨(some 54), none, (.load none (.t 53))⟩, ⟨(some 56), none, (.load none (.t 55))⟩]), (.mk 3 false ⟨(some 51), none, (.indexAddr 1 (.t 48) (.t 50))⟩ []), (.mk 4 false ⟨(some 52), none, (.load none (.t 51))⟩ []), (.mk 9 false ⟨(some 2), none, (.mv (.t 52))⟩ []), (.mk 10 false ⟨(some 3), none, (.mv (.t 54))⟩ []), (.mk 11 false ⟨(some 4), none, (.mv (.t 56))⟩ [])]) .ret) (.seq (.ops [⟨(some 58), none, (.bin .eql (.t 38) (.c (.t (.int .i64 2))))⟩, ⟨(some 57), none, (.mv (.t 58))⟩]) (.cond (.t 57) (.ops [⟨(some 59), none, (.lit none 1 4 [(.t (.str []))] [⟨0, (.c (.t (.str [110, 111, 110, 101])))⟩, ⟨1, (.c (.t (.str [])))⟩, ⟨2, (.c (.t (.str [122, 111, 110, 101])))⟩, ⟨3, (.c (.t (.str [105, 109, 97, 103, 101])))⟩])⟩, ⟨(some 60), none, (.mv (.t 5))⟩, ⟨(some 61), none, (.call (.c (.fn (.func 57) [])) [(.t 60), (.c (.t (.int .i64 4)))])⟩, ⟨(some 62), none, (.indexAddr 1 (.t 59) (.t 61))⟩, ⟨(some 63), none, (.load none (.t 62))⟩, ⟨(some 64), none, (.fieldAddr 0 (.t 7))⟩, ⟨none, none, (.store 1 (.t 64) (.t 63))⟩]) .skip)))))))) (.seq (.drawn [(.mk 0 false ⟨(some 65), none, (.mv (.t 6))⟩ []), (.mk 1 false ⟨(some 66), none, (.fieldAddr 0 (.t 7))⟩ []), (.mk 2 false ⟨(some 67), none, (.load none (.t 66))⟩ []), (.mk 3 false ⟨(some 68), none, (.fieldAddr 1 (.t 7))⟩ []), (.mk 4 false ⟨(some 69), none, (.load none (.t 68))⟩ []), (.mk 5 false ⟨(some 2), none, (.mv (.t 65))⟩ []), (.mk 6 false ⟨(some 3), none, (.mv (.t 67))⟩ []), (.mk 7 false ⟨(some 4), none, (.mv (.t 69))⟩ [])]) .ret)))))))
theorem k_spec_DrawSheetFits : comp Tryd.prog 70 (Tryd.f20.body.getD .skip) = some c_spec_DrawSheetFits := by kernel_rfl

set_option maxRecDepth 20000 in
set_option maxHeartbeats 16000000 in
theorem draw_fits (c : List UInt8) (σ : Store) : ACalls Tryd.prog 20 [.t (.lst 1 (byteT c))] σ (FitsR σ) := by
  refine acalls_of Tryd.func20 (by decide +kernel) (code := Tryd.f20.body.getD .skip) (n := 70) (c := c_spec_DrawSheetFits) (rs := [(.tmp 2), (.tmp 3), (.tmp 4)]) rfl rfl k_spec_DrawSheetFits (by kernel_rfl) (by simp) (fun hσ => ?_)
  simp -implicitDefEqProofs only [c_spec_DrawSheetFits, S0, S1, S2, S3, S4, S5, S6, S7, S8, S9, S10, S11, S12, S13, S14, S15, S16, S17, opv, opvs, eget, env0, setD, lenStr, lenSl, isNilP, isNilS, putAt, if_true, if_false, reduceCtorEq, Nat.reduceLeDiff, Nat.reduceEqDiff, Nat.reduceSub, Nat.reduceMul, Nat.reduceAdd]
  refine call_by (by rw [List.append_nil]; exact open_rd c _) ?_
  rintro r σ' ⟨l, hl, rfl, rfl⟩
  have c1 : 0 < 3 ∧ 1 < 3 ∧ 2 < 3 := by omega
  simp -implicitDefEqProofs only [c1, List.replicate, S0, S1, S2, S3, S4, S5, S6, S7, S8, S9, S10, S11, S12, S13, S14, S15, S16, S17, opv, opvs, eget, env0, setD, lenStr, lenSl, isNilP, isNilS, putAt, if_true, if_false, reduceCtorEq, Nat.reduceLeDiff, Nat.reduceEqDiff, Nat.reduceSub, Nat.reduceMul, Nat.reduceAdd]
  refine lit_rows ?_
  simp -implicitDefEqProofs only [S0, S1, S2, S3, S4, S5, S6, S7, S8, S9, S10, S11, S12, S13, S14, S15, S16, S17, opv, opvs, eget, env0, setD, lenStr, lenSl, isNilP, isNilS, putAt, if_true, if_false, reduceCtorEq, Nat.reduceLeDiff, Nat.reduceEqDiff, Nat.reduceSub, Nat.reduceMul, Nat.reduceAdd]
  refine call_by (by rw [List.append_nil]; exact pick_n l hl 0 3 σ.length (by omega) (by omega) (by omega) _ (by simp)) ?_
  rintro r σ' ⟨y, rfl, hy, rfl⟩
  obtain ⟨kind, hkr, hkk, hkl⟩ : ∃ k : List UInt8, ([[.t (.str [116, 101, 97, 109])], [.t (.str [98, 101, 114, 116, 104])], [.t (.str [115, 101, 114, 118, 105, 99, 101])]] : List (List V))[y]? = some [.t (.str k)] ∧ kindOk k = true ∧ k.length ≤ 20 := by
    rcases (by omega : y = 0 ∨ y = 1 ∨ y = 2) with rfl | rfl | rfl
    · exact ⟨_, rfl, by decide, by decide⟩
    · exact ⟨_, rfl, by decide, by decide⟩
    · exact ⟨_, rfl, by decide, by decide⟩
  simp -implicitDefEqProofs only [nat_nn, Nat.zero_le, Int.toNat_natCast, hkr, S0, S1, S2, S3, S4, S5, S6, S7, S8, S9, S10, S11, S12, S13, S14, S15, S16, S17, opv, opvs, eget, env0, setD, lenStr, lenSl, isNilP, isNilS, putAt, if_true, if_false, reduceCtorEq, Nat.reduceLeDiff, Nat.reduceEqDiff, Nat.reduceSub, Nat.reduceMul, Nat.reduceAdd]
  obtain ⟨id, hidd⟩ : ∃ id, id = σ.length := ⟨_, rfl⟩
  obtain ⟨s1, hs1⟩ : ∃ s1, s1 = σ ++ [Go.Ab.Obj.box (rdV l 1)] := ⟨_, rfl⟩
  have r1 : s1[id]? = some (.box (rdV l 1)) := by rw [hs1, hidd]; simp
  have l1 : s1.length = id + 1 := by rw [hs1, hidd]; simp
  rw [← hs1]
  try rw [← hidd]
  refine call_by (by rw [List.append_nil]; exact draw_line l hl 1 id (by omega) kind hkk _ r1) ?_
  rintro r s2 ⟨key, ws, v, is, q, rfl, hkey, hws, hq, hdw⟩
  have one2 := hdw.one
  have hle2 := hdw.le
  obtain ⟨X, hXd⟩ : ∃ X, X = s2.length := ⟨_, rfl⟩
  have hlv : lenSl v = some ws.length := by
    rcases own_obj hdw.own (tStr_flat ws) with ⟨h0, _, h2⟩ | ⟨j, h1, h2, h3⟩
    · have h0' : ws = [] := by simpa using h0
      rw [h0']; rcases h2 with rfl | rfl <;> rfl
    · rw [h2, List.length_map]; rfl
  have hlv2 := hlv
  simp only [lenSl] at hlv2
  simp -implicitDefEqProofs only [one2, one_cells one2, S0, S1, S2, S3, S4, S5, S6, S7, S8, S9, S10, S11, S12, S13, S14, S15, S16, S17, opv, opvs, eget, env0, setD, lenStr, lenSl, isNilP, isNilS, putAt, if_true, if_false, reduceCtorEq, Nat.reduceLeDiff, Nat.reduceEqDiff, Nat.reduceSub, Nat.reduceMul, Nat.reduceAdd]
  obtain ⟨s3, hs3⟩ : ∃ s3, s3 = s2 ++ [Go.Ab.Obj.box [.t (.str key), v]] := ⟨_, rfl⟩
  have l3 : s3.length = X + 1 := by rw [hs3, hXd]; simp
  have rd3 : s3[id]? = some (.box (rdV l q)) := by rw [hs3, List.getElem?_append_left (rd_len hdw.rd)]; exact hdw.rd
  have bx3 : s3[X]? = some (.box [.t (.str key), v]) := by rw [hs3, hXd]; simp
  have ow3 : Own s3 (tStrs ws) v is := by rw [hs3]; exact (Kp.app s2 _).own hdw.own
  have hwi : Wi is (id + 1) X := by have := hdw.wi; rw [l1, ← hXd] at this; exact this
  have kpp3 : Kp σ s3 := fun x hx => by
    have h1 := hdw.kp x (by omega) (by simp; omega)
    rw [hs3, List.getElem?_append_left (by omega), h1, hs1, List.getElem?_append_left hx]
  have hidX : id < X := by omega
  have hX0 : X ∉ is := fun hm => by have := hwi.2 X hm; omega
  have hid0 : id ∉ is := fun hm => by have := hwi.2 id hm; omega
  rw [← hs3, ← hXd]
  refine call_by (by rw [List.append_nil]; exact pick_n l hl q 2 id (by omega) (by omega) (by omega) _ rd3) ?_
  rintro r σ' ⟨y0, rfl, hy0, rfl⟩
  obtain ⟨t3, ht3⟩ : ∃ t3, t3 = s3.set id (.box (rdV l (q + 1))) := ⟨_, rfl⟩
  have lt3 : t3.length = X + 1 := by rw [ht3, List.length_set, l3]
  have r3 : t3[id]? = some (.box (rdV l (q + 1))) := by rw [ht3]; exact List.getElem?_set_self (rd_len rd3)
  have b3 : t3[X]? = some (.box [.t (.str key), v]) := by rw [ht3, List.getElem?_set_ne (by omega)]; exact bx3
  have own3 : Own t3 (tStrs ws) v is := ow3.frame fun x hx => by rw [ht3, List.getElem?_set_ne (fun e => hid0 (by rw [e]; exact hx))]
  have kp3 : Kp σ t3 := by rw [ht3]; exact kpp3.set (by omega)
  rw [← ht3]
  simp -implicitDefEqProofs only [S0, S1, S2, S3, S4, S5, S6, S7, S8, S9, S10, S11, S12, S13, S14, S15, S16, S17, opv, opvs, eget, env0, setD, lenStr, lenSl, isNilP, isNilS, putAt, if_true, if_false, reduceCtorEq, Nat.reduceLeDiff, Nat.reduceEqDiff, Nat.reduceSub, Nat.reduceMul, Nat.reduceAdd]
  rcases hz0 : (((y0 : Nat) : Int) == 0) with _ | _
  · simp -implicitDefEqProofs only [hz0, cond_t, cond_f, S0, S1, S2, S3, S4, S5, S6, S7, S8, S9, S10, S11, S12, S13, S14, S15, S16, S17, opv, opvs, eget, env0, setD, lenStr, lenSl, isNilP, isNilS, putAt, if_true, if_false, reduceCtorEq, Nat.reduceLeDiff, Nat.reduceEqDiff, Nat.reduceSub, Nat.reduceMul, Nat.reduceAdd]
    have nr3 := hdw.nr
    have wi3 : Wi is (id + 1) t3.length := hwi.mono (by omega) (by omega)
    have sm3 := hdw.sm
    have hr3l := rd_len r3
    have hb3l := rd_len b3
    have one3 := own3.one
    have hne3 : id ≠ X := by omega
    have hid3 : id ∉ is := box_out own3 r3
    have hX3 : X ∉ is := box_out own3 b3
    refine call_by (by rw [List.append_nil]; exact pick_n l hl (q + 1) 10 id (by omega) (by omega) (by omega) _ r3) ?_
    rintro r σ' ⟨y, rfl, hy, rfl⟩
    obtain ⟨s4, hs4⟩ : ∃ s4, s4 = t3.set id (.box (rdV l ((q + 1) + 1))) := ⟨_, rfl⟩
    have l4 : s4.length = t3.length := by rw [hs4, List.length_set]
    have r4 : s4[id]? = some (.box (rdV l ((q + 1) + 1))) := by rw [hs4]; exact List.getElem?_set_self hr3l
    have b4 : s4[X]? = some (.box [.t (.str key), v]) := by rw [hs4, List.getElem?_set_ne hne3]; exact b3
    have own4 : Own s4 (tStrs ws) v is := own3.frame fun x hx => by rw [hs4, List.getElem?_set_ne (fun e => hid3 (by rw [e]; exact hx))]
    have kp4 : Kp σ s4 := by rw [hs4]; exact kp3.set (by omega)
    rw [← hs4]
    simp -implicitDefEqProofs only [S0, S1, S2, S3, S4, S5, S6, S7, S8, S9, S10, S11, S12, S13, S14, S15, S16, S17, opv, opvs, eget, env0, setD, lenStr, lenSl, isNilP, isNilS, putAt, if_true, if_false, reduceCtorEq, Nat.reduceLeDiff, Nat.reduceEqDiff, Nat.reduceSub, Nat.reduceMul, Nat.reduceAdd]
    refine cond_split (fun hy0 => ?_) (fun hy0 => ?_)
    · have c1 : 0 < 1 := by omega
      simp -implicitDefEqProofs only [b4, one3, one_cells one3, c1, S0, S1, S2, S3, S4, S5, S6, S7, S8, S9, S10, S11, S12, S13, S14, S15, S16, S17, opv, opvs, eget, env0, setD, lenStr, lenSl, isNilP, isNilS, putAt, if_true, if_false, reduceCtorEq, Nat.reduceLeDiff, Nat.reduceEqDiff, Nat.reduceSub, Nat.reduceMul, Nat.reduceAdd]
      refine lit_rows ?_
      have hrow : ∀ (s : Store), rowsOf s 1 (.rows 1 [[.t (.str [49])]]) = some [[.t (.str [49])]] := fun s => rowsOf_rows rfl
      simp -implicitDefEqProofs only [b4, one3, one_cells one3, c1, hrow, S0, S1, S2, S3, S4, S5, S6, S7, S8, S9, S10, S11, S12, S13, S14, S15, S16, S17, opv, opvs, eget, env0, setD, lenStr, lenSl, isNilP, isNilS, putAt, if_true, if_false, reduceCtorEq, Nat.reduceLeDiff, Nat.reduceEqDiff, Nat.reduceSub, Nat.reduceMul, Nat.reduceAdd]
      refine app_own (rows := ws.map tStr) (r := [.str [49]]) (is := is) (js := []) (a := id + 1) own4 nr3 (by rw [l4]; exact wi3) (ownL_flat [T.str [49]] (by simp [scalar])) Wi.nil (fun _ _ => by simp) (by omega) (by rw [List.length_map]; simp only [maxBy]; omega) (by rw [List.length_map]; omega) ?_
      intro v5 s5 is5 hle5 kb5 own5 nr5 wi5
      have one5 := own5.one
      have b5 : s5[X]? = some (.box [.t (.str key), v]) := (kb5 X (by omega) hX3).trans b4
      have b5t : ∀ o : Go.Ab.Obj, (s5.set X o)[X]? = some o := fun o => List.getElem?_set_self (by omega)
      simp -implicitDefEqProofs only [b5, b5t, one3, one_cells one3, one5, one_cells one5, S0, S1, S2, S3, S4, S5, S6, S7, S8, S9, S10, S11, S12, S13, S14, S15, S16, S17, opv, opvs, eget, env0, setD, lenStr, lenSl, isNilP, isNilS, putAt, if_true, if_false, reduceCtorEq, Nat.reduceLeDiff, Nat.reduceEqDiff, Nat.reduceSub, Nat.reduceMul, Nat.reduceAdd]
      have kp5 : Kp σ s5 := fun x hx => by rw [kb5 x (by omega) (fun hm => by have := wi3.2 x hm; omega)]; exact kp4 x hx
      have hX5 := box_out (ws := ws ++ [[49]]) (by simpa [tStrs, tStr] using own5) b5
      refine fin_keep (by simp; omega) (fits_end (ws := ws ++ [[49]]) (kp5.set (by omega)) (by simp; omega) (is := is5) ?_ hkl hkey (by simp; omega) fun w hw => ?_)
      · have : (ws ++ [[49]]).map tStr = ws.map tStr ++ [[.str [49]]] := by simp [tStr]
        simp only [tStrs, this]
        exact own5.frame fun x hx => by rw [List.getElem?_set_ne (fun e => hX5 (by rw [e]; exact hx))]
      · rcases List.mem_append.1 hw with hw | hw
        · exact sm3 w hw
        · simp at hw; subst hw; simp
    simp -implicitDefEqProofs only [S0, S1, S2, S3, S4, S5, S6, S7, S8, S9, S10, S11, S12, S13, S14, S15, S16, S17, opv, opvs, eget, env0, setD, lenStr, lenSl, isNilP, isNilS, putAt, if_true, if_false, reduceCtorEq, Nat.reduceLeDiff, Nat.reduceEqDiff, Nat.reduceSub, Nat.reduceMul, Nat.reduceAdd]
    refine cond_split (fun hy1 => ?_) (fun hy1 => ?_)
    · have c1 : 0 < 2 ∧ 1 < 2 := by omega
      simp -implicitDefEqProofs only [b4, one3, one_cells one3, c1, List.replicate, S0, S1, S2, S3, S4, S5, S6, S7, S8, S9, S10, S11, S12, S13, S14, S15, S16, S17, opv, opvs, eget, env0, setD, lenStr, lenSl, isNilP, isNilS, putAt, if_true, if_false, reduceCtorEq, Nat.reduceLeDiff, Nat.reduceEqDiff, Nat.reduceSub, Nat.reduceMul, Nat.reduceAdd]
      try (refine lit_rows ?_; simp -implicitDefEqProofs only [b4, one3, one_cells one3, c1, S0, S1, S2, S3, S4, S5, S6, S7, S8, S9, S10, S11, S12, S13, S14, S15, S16, S17, opv, opvs, eget, env0, setD, lenStr, lenSl, isNilP, isNilS, putAt, if_true, if_false, reduceCtorEq, Nat.reduceLeDiff, Nat.reduceEqDiff, Nat.reduceSub, Nat.reduceMul, Nat.reduceAdd])
      refine call_by (by rw [List.append_nil]; exact pick_n l hl ((q + 1) + 1) 2 id (by omega) (by omega) (by omega) _ r4) ?_
      rintro r σ' ⟨y2, rfl, hy2, rfl⟩
      obtain ⟨s5, hs5⟩ : ∃ s5, s5 = s4.set id (.box (rdV l ((q + 1) + 1 + 1))) := ⟨_, rfl⟩
      have b5 : s5[X]? = some (.box [.t (.str key), v]) := by rw [hs5, List.getElem?_set_ne hne3]; exact b4
      have own5 : Own s5 (tStrs ws) v is := own4.frame fun x hx => by rw [hs5, List.getElem?_set_ne (fun e => hid3 (by rw [e]; exact hx))]
      rw [← hs5]
      simp -implicitDefEqProofs only [b5, one3, S0, S1, S2, S3, S4, S5, S6, S7, S8, S9, S10, S11, S12, S13, S14, S15, S16, S17, opv, opvs, eget, env0, setD, lenStr, lenSl, isNilP, isNilS, putAt, if_true, if_false, reduceCtorEq, Nat.reduceLeDiff, Nat.reduceEqDiff, Nat.reduceSub, Nat.reduceMul, Nat.reduceAdd]
      refine And.intro (.inr ?_) ?_
      · refine ⟨fun _ => ⟨_, _, rfl, rfl, ?_⟩, fun _ => ⟨_, _, rfl, rfl, ?_⟩, trivial⟩
        · simp -implicitDefEqProofs only [ev, eqK, b5, one3, evLoad, onV, onBox, ldV, S0, S1, S2, S3, S4, S5, S6, S7, S8, S9, S10, S11, S12, S13, S14, S15, S16, S17, opv, opvs, eget, env0, setD, lenStr, lenSl, isNilP, isNilS, putAt, if_true, if_false, reduceCtorEq, Nat.reduceLeDiff, Nat.reduceEqDiff, Nat.reduceSub, Nat.reduceMul, Nat.reduceAdd]
        · simp -implicitDefEqProofs only [ev, eqK, b5, one3, evLoad, onV, onBox, ldV, S0, S1, S2, S3, S4, S5, S6, S7, S8, S9, S10, S11, S12, S13, S14, S15, S16, S17, opv, opvs, eget, env0, setD, lenStr, lenSl, isNilP, isNilS, putAt, if_true, if_false, reduceCtorEq, Nat.reduceLeDiff, Nat.reduceEqDiff, Nat.reduceSub, Nat.reduceMul, Nat.reduceAdd]
      try simp -implicitDefEqProofs only [nat_nn, Nat.zero_le, Int.toNat_natCast, S0, S1, S2, S3, S4, S5, S6, S7, S8, S9, S10, S11, S12, S13, S14, S15, S16, S17, opv, opvs, eget, env0, setD, lenStr, lenSl, isNilP, isNilS, putAt, if_true, if_false, reduceCtorEq, Nat.reduceLeDiff, Nat.reduceEqDiff, Nat.reduceSub, Nat.reduceMul, Nat.reduceAdd]
      refine pick_row (m := 20) (by decide) (by simpa using hy2) ?_
      intro w hw
      simp -implicitDefEqProofs only [one3, one_cells one3, S0, S1, S2, S3, S4, S5, S6, S7, S8, S9, S10, S11, S12, S13, S14, S15, S16, S17, opv, opvs, eget, env0, setD, lenStr, lenSl, isNilP, isNilS, putAt, if_true, if_false, reduceCtorEq, Nat.reduceLeDiff, Nat.reduceEqDiff, Nat.reduceSub, Nat.reduceMul, Nat.reduceAdd]
      exact fin_keep (by rw [hs5]; simp; omega) (fits_end (by rw [hs5]; exact kp4.set (by omega)) (by rw [hs5]; simp; omega) own5 hw hkey (by omega) sm3)
    simp -implicitDefEqProofs only [S0, S1, S2, S3, S4, S5, S6, S7, S8, S9, S10, S11, S12, S13, S14, S15, S16, S17, opv, opvs, eget, env0, setD, lenStr, lenSl, isNilP, isNilS, putAt, if_true, if_false, reduceCtorEq, Nat.reduceLeDiff, Nat.reduceEqDiff, Nat.reduceSub, Nat.reduceMul, Nat.reduceAdd]
    refine cond_split (fun hy2 => ?_) (fun hy2 => ?_)
    · have c1 : 0 < 4 ∧ 1 < 4 ∧ 2 < 4 ∧ 3 < 4 := by omega
      simp -implicitDefEqProofs only [b4, one3, one_cells one3, c1, List.replicate, S0, S1, S2, S3, S4, S5, S6, S7, S8, S9, S10, S11, S12, S13, S14, S15, S16, S17, opv, opvs, eget, env0, setD, lenStr, lenSl, isNilP, isNilS, putAt, if_true, if_false, reduceCtorEq, Nat.reduceLeDiff, Nat.reduceEqDiff, Nat.reduceSub, Nat.reduceMul, Nat.reduceAdd]
      refine lit_rows ?_
      simp -implicitDefEqProofs only [b4, one3, one_cells one3, c1, S0, S1, S2, S3, S4, S5, S6, S7, S8, S9, S10, S11, S12, S13, S14, S15, S16, S17, opv, opvs, eget, env0, setD, lenStr, lenSl, isNilP, isNilS, putAt, if_true, if_false, reduceCtorEq, Nat.reduceLeDiff, Nat.reduceEqDiff, Nat.reduceSub, Nat.reduceMul, Nat.reduceAdd]
      refine call_by (by rw [List.append_nil]; exact pick_n l hl ((q + 1) + 1) 4 id (by omega) (by omega) (by omega) _ r4) ?_
      rintro r σ' ⟨y2, rfl, hy3, rfl⟩
      obtain ⟨s5, hs5⟩ : ∃ s5, s5 = s4.set id (.box (rdV l ((q + 1) + 1 + 1))) := ⟨_, rfl⟩
      have l5 : s5.length = t3.length := by rw [hs5, List.length_set, l4]
      have b5 : s5[X]? = some (.box [.t (.str key), v]) := by rw [hs5, List.getElem?_set_ne hne3]; exact b4
      have b5t : ∀ o : Go.Ab.Obj, (s5.set X o)[X]? = some o := fun o => List.getElem?_set_self (by omega)
      have own5 : Own s5 (tStrs ws) v is := own4.frame fun x hx => by rw [hs5, List.getElem?_set_ne (fun e => hid3 (by rw [e]; exact hx))]
      rw [← hs5]
      simp -implicitDefEqProofs only [b5, one3, nat_nn, Nat.zero_le, Int.toNat_natCast, S0, S1, S2, S3, S4, S5, S6, S7, S8, S9, S10, S11, S12, S13, S14, S15, S16, S17, opv, opvs, eget, env0, setD, lenStr, lenSl, isNilP, isNilS, putAt, if_true, if_false, reduceCtorEq, Nat.reduceLeDiff, Nat.reduceEqDiff, Nat.reduceSub, Nat.reduceMul, Nat.reduceAdd]
      refine pick_row (m := 20) (by decide) (by simpa using hy3) ?_
      intro w hw
      simp -implicitDefEqProofs only [b5, b5t, one3, one_cells one3, S0, S1, S2, S3, S4, S5, S6, S7, S8, S9, S10, S11, S12, S13, S14, S15, S16, S17, opv, opvs, eget, env0, setD, lenStr, lenSl, isNilP, isNilS, putAt, if_true, if_false, reduceCtorEq, Nat.reduceLeDiff, Nat.reduceEqDiff, Nat.reduceSub, Nat.reduceMul, Nat.reduceAdd]
      exact fin_keep (by rw [List.length_set]; omega) (fits_end ((by rw [hs5]; exact kp4.set (by omega) : Kp σ s5).set (by omega)) (by rw [List.length_set]; omega) (own5.frame fun x hx => by rw [List.getElem?_set_ne (fun e => hX3 (by rw [e]; exact hx))]) hkl hw (by omega) sm3)
    simp -implicitDefEqProofs only [b4, one3, one_cells one3, S0, S1, S2, S3, S4, S5, S6, S7, S8, S9, S10, S11, S12, S13, S14, S15, S16, S17, opv, opvs, eget, env0, setD, lenStr, lenSl, isNilP, isNilS, putAt, if_true, if_false, reduceCtorEq, Nat.reduceLeDiff, Nat.reduceEqDiff, Nat.reduceSub, Nat.reduceMul, Nat.reduceAdd]
    exact fin_keep (by omega) (fits_end kp4 (by omega) own4 hkl hkey (by omega) sm3)
  simp -implicitDefEqProofs only [hz0, cond_t, cond_f, b3, one2, hlv2, S0, S1, S2, S3, S4, S5, S6, S7, S8, S9, S10, S11, S12, S13, S14, S15, S16, S17, opv, opvs, eget, env0, setD, lenStr, lenSl, isNilP, isNilS, putAt, if_true, if_false, reduceCtorEq, Nat.reduceLeDiff, Nat.reduceEqDiff, Nat.reduceSub, Nat.reduceMul, Nat.reduceAdd]
  refine cond_split (fun hw0 => ?_) (fun hw0 => ?_)
  · have hne : ws ≠ [] := fun e => by rw [e] at hw0; simp at hw0
    obtain ⟨id2, hi2, hve, hro⟩ := strs_row own3 hne
    have hwl : 1 ≤ ws.length := List.length_pos_iff.2 hne
    have hid2 : id2 ≠ id := fun e => hid0 (by rw [hi2, e]; simp)
    have hX2 : id2 ≠ X := fun e => hX0 (by rw [hi2, e]; simp)
    have hid2l : id2 < t3.length := rd_len hro
    simp -implicitDefEqProofs only [b3, one2, hlv2, S0, S1, S2, S3, S4, S5, S6, S7, S8, S9, S10, S11, S12, S13, S14, S15, S16, S17, opv, opvs, eget, env0, setD, lenStr, lenSl, isNilP, isNilS, putAt, if_true, if_false, reduceCtorEq, Nat.reduceLeDiff, Nat.reduceEqDiff, Nat.reduceSub, Nat.reduceMul, Nat.reduceAdd]
    refine call_by (by rw [List.append_nil]; exact pick_n l hl (q + 1) ws.length id (by omega) hwl (by omega) _ r3) ?_
    rintro r σ' ⟨y5, rfl, hy5, rfl⟩
    obtain ⟨t4, ht4⟩ : ∃ t4, t4 = t3.set id (.box (rdV l (q + 1 + 1))) := ⟨_, rfl⟩
    have lt4 : t4.length = X + 1 := by rw [ht4, List.length_set, lt3]
    have r4 : t4[id]? = some (.box (rdV l (q + 1 + 1))) := by rw [ht4]; exact List.getElem?_set_self (rd_len r3)
    have b4 : t4[X]? = some (.box [.t (.str key), v]) := by rw [ht4, List.getElem?_set_ne (by omega)]; exact b3
    have ro4 : t4[id2]? = some (.slc 1 ((ws.map tStr).map fun r => r.map V.t)) := by rw [ht4, List.getElem?_set_ne (fun e => hid2 e.symm)]; exact hro
    rw [← ht4]
    simp -implicitDefEqProofs only [b4, one2, S0, S1, S2, S3, S4, S5, S6, S7, S8, S9, S10, S11, S12, S13, S14, S15, S16, S17, opv, opvs, eget, env0, setD, lenStr, lenSl, isNilP, isNilS, putAt, if_true, if_false, reduceCtorEq, Nat.reduceLeDiff, Nat.reduceEqDiff, Nat.reduceSub, Nat.reduceMul, Nat.reduceAdd]
    refine And.intro (.inr ?_) ?_
    · refine ⟨fun _ => ⟨_, v, rfl, rfl, ?_⟩, trivial⟩
      simp -implicitDefEqProofs only [ev, eqK, b4, one2, evLoad, onV, onBox, ldV, S0, S1, S2, S3, S4, S5, S6, S7, S8, S9, S10, S11, S12, S13, S14, S15, S16, S17, opv, opvs, eget, env0, setD, lenStr, lenSl, isNilP, isNilS, putAt, if_true, if_false, reduceCtorEq, Nat.reduceLeDiff, Nat.reduceEqDiff, Nat.reduceSub, Nat.reduceMul, Nat.reduceAdd]
    try simp -implicitDefEqProofs only [b4, one2, S0, S1, S2, S3, S4, S5, S6, S7, S8, S9, S10, S11, S12, S13, S14, S15, S16, S17, opv, opvs, eget, env0, setD, lenStr, lenSl, isNilP, isNilS, putAt, if_true, if_false, reduceCtorEq, Nat.reduceLeDiff, Nat.reduceEqDiff, Nat.reduceSub, Nat.reduceMul, Nat.reduceAdd]
    refine call_by (by rw [List.append_nil]; exact draw_odd l hl (q + 1 + 1) id (by omega) _ r4) ?_
    rintro r σ' ⟨w, rfl, hw, rfl⟩
    obtain ⟨t5, ht5⟩ : ∃ t5, t5 = t4.set id (.box (rdV l (q + 1 + 1 + 2))) := ⟨_, rfl⟩
    have lt5 : t5.length = X + 1 := by rw [ht5, List.length_set, lt4]
    have r5 : t5[id]? = some (.box (rdV l (q + 1 + 1 + 2))) := by rw [ht5]; exact List.getElem?_set_self (rd_len r4)
    have b5 : t5[X]? = some (.box [.t (.str key), v]) := by rw [ht5, List.getElem?_set_ne (by omega)]; exact b4
    have ro5 : t5[id2]? = some (.slc 1 ((ws.map tStr).map fun r => r.map V.t)) := by rw [ht5, List.getElem?_set_ne (fun e => hid2 e.symm)]; exact ro4
    have kp5 : Kp σ t5 := by rw [ht5, ht4]; exact (kp3.set (by omega)).set (by omega)
    rw [← ht5]
    simp -implicitDefEqProofs only [b5, one2, S0, S1, S2, S3, S4, S5, S6, S7, S8, S9, S10, S11, S12, S13, S14, S15, S16, S17, opv, opvs, eget, env0, setD, lenStr, lenSl, isNilP, isNilS, putAt, if_true, if_false, reduceCtorEq, Nat.reduceLeDiff, Nat.reduceEqDiff, Nat.reduceSub, Nat.reduceMul, Nat.reduceAdd]
    refine And.intro (.inr ?_) ?_
    · refine ⟨fun _ => ⟨_, v, rfl, rfl, ?_⟩, trivial⟩
      simp -implicitDefEqProofs only [ev, eqK, b5, one2, evLoad, onV, onBox, ldV, S0, S1, S2, S3, S4, S5, S6, S7, S8, S9, S10, S11, S12, S13, S14, S15, S16, S17, opv, opvs, eget, env0, setD, lenStr, lenSl, isNilP, isNilS, putAt, if_true, if_false, reduceCtorEq, Nat.reduceLeDiff, Nat.reduceEqDiff, Nat.reduceSub, Nat.reduceMul, Nat.reduceAdd]
    have hrk : ((ws.map tStr).map fun r => r.map V.t)[y5]? = some [.t (.str ws[y5])] := by
      rw [List.getElem?_map, List.getElem?_map, List.getElem?_eq_getElem hy5]; rfl
    have hrl : ((ws.map tStr).map fun r => r.map V.t).length = ws.length := by rw [List.length_map, List.length_map]
    have kx : ((y5 : Nat) : Int) < ((ws.length : Nat) : Int) := by omega
    have c0 : (0 : Nat) + 1 ≤ 1 := by omega
    simp -implicitDefEqProofs only [hve, ro5, hrk, hrl, kx, c0, nat_nn, Nat.zero_le, Int.toNat_natCast, Nat.zero_add, List.length_cons, List.length_nil, S0, S1, S2, S3, S4, S5, S6, S7, S8, S9, S10, S11, S12, S13, S14, S15, S16, S17, opv, opvs, eget, env0, setD, lenStr, lenSl, isNilP, isNilS, putAt, if_true, if_false, reduceCtorEq, Nat.reduceLeDiff, Nat.reduceEqDiff, Nat.reduceSub, Nat.reduceMul, Nat.reduceAdd]
    rw [rows_set]
    obtain ⟨t6, ht6⟩ : ∃ t6, t6 = t5.set id2 (tObj 1 ((ws.set y5 w).map tStr)) := ⟨_, rfl⟩
    have lt6 : t6.length = X + 1 := by rw [ht6, List.length_set, lt5]
    have r3 : t6[id]? = some (.box (rdV l (q + 1 + 1 + 2))) := by rw [ht6, List.getElem?_set_ne hid2]; exact r5
    have b3 : t6[X]? = some (.box [.t (.str key), v]) := by rw [ht6, List.getElem?_set_ne hX2]; exact b5
    have own3 : Own t6 (tStrs (ws.set y5 w)) v is := by
      rw [hve, hi2]
      exact own_strs (by rw [ht6]; exact List.getElem?_set_self (by omega)) (by rw [List.length_set])
    have kp3 : Kp σ t6 := by rw [ht6]; exact kp5.set (by have := hwi.2 id2 (by rw [hi2]; simp); omega)
    have nr3 := hdw.nr
    have wi3 : Wi is (id + 1) t6.length := hwi.mono (by omega) (by omega)
    have sm3 : ∀ z ∈ ws.set y5 w, z.length ≤ 201 := fun z hz => by
      rcases List.mem_or_eq_of_mem_set hz with hz | rfl
      · exact hdw.sm z hz
      · exact hw
    have hws : (ws.set y5 w).length ≤ 8 := by rw [List.length_set]; exact hws
    rw [← ht6, ← hve]
    obtain ⟨ws6, hws6⟩ : ∃ ws6, ws6 = ws.set y5 w := ⟨_, rfl⟩
    rw [← hws6] at own3 sm3 hws
    have hr3l := rd_len r3
    have hb3l := rd_len b3
    have one3 := own3.one
    have hne3 : id ≠ X := by omega
    have hid3 : id ∉ is := box_out own3 r3
    have hX3 : X ∉ is := box_out own3 b3
    refine call_by (by rw [List.append_nil]; exact pick_n l hl (q + 1 + 1 + 2) 10 id (by omega) (by omega) (by omega) _ r3) ?_
    rintro r σ' ⟨y, rfl, hy, rfl⟩
    obtain ⟨s4, hs4⟩ : ∃ s4, s4 = t6.set id (.box (rdV l ((q + 1 + 1 + 2) + 1))) := ⟨_, rfl⟩
    have l4 : s4.length = t6.length := by rw [hs4, List.length_set]
    have r4 : s4[id]? = some (.box (rdV l ((q + 1 + 1 + 2) + 1))) := by rw [hs4]; exact List.getElem?_set_self hr3l
    have b4 : s4[X]? = some (.box [.t (.str key), v]) := by rw [hs4, List.getElem?_set_ne hne3]; exact b3
    have own4 : Own s4 (tStrs ws6) v is := own3.frame fun x hx => by rw [hs4, List.getElem?_set_ne (fun e => hid3 (by rw [e]; exact hx))]
    have kp4 : Kp σ s4 := by rw [hs4]; exact kp3.set (by omega)
    rw [← hs4]
    simp -implicitDefEqProofs only [S0, S1, S2, S3, S4, S5, S6, S7, S8, S9, S10, S11, S12, S13, S14, S15, S16, S17, opv, opvs, eget, env0, setD, lenStr, lenSl, isNilP, isNilS, putAt, if_true, if_false, reduceCtorEq, Nat.reduceLeDiff, Nat.reduceEqDiff, Nat.reduceSub, Nat.reduceMul, Nat.reduceAdd]
    refine cond_split (fun hy0 => ?_) (fun hy0 => ?_)
    · have c1 : 0 < 1 := by omega
      simp -implicitDefEqProofs only [b4, one3, one_cells one3, c1, S0, S1, S2, S3, S4, S5, S6, S7, S8, S9, S10, S11, S12, S13, S14, S15, S16, S17, opv, opvs, eget, env0, setD, lenStr, lenSl, isNilP, isNilS, putAt, if_true, if_false, reduceCtorEq, Nat.reduceLeDiff, Nat.reduceEqDiff, Nat.reduceSub, Nat.reduceMul, Nat.reduceAdd]
      refine lit_rows ?_
      have hrow : ∀ (s : Store), rowsOf s 1 (.rows 1 [[.t (.str [49])]]) = some [[.t (.str [49])]] := fun s => rowsOf_rows rfl
      simp -implicitDefEqProofs only [b4, one3, one_cells one3, c1, hrow, S0, S1, S2, S3, S4, S5, S6, S7, S8, S9, S10, S11, S12, S13, S14, S15, S16, S17, opv, opvs, eget, env0, setD, lenStr, lenSl, isNilP, isNilS, putAt, if_true, if_false, reduceCtorEq, Nat.reduceLeDiff, Nat.reduceEqDiff, Nat.reduceSub, Nat.reduceMul, Nat.reduceAdd]
      refine app_own (rows := ws6.map tStr) (r := [.str [49]]) (is := is) (js := []) (a := id + 1) own4 nr3 (by rw [l4]; exact wi3) (ownL_flat [T.str [49]] (by simp [scalar])) Wi.nil (fun _ _ => by simp) (by omega) (by rw [List.length_map]; simp only [maxBy]; omega) (by rw [List.length_map]; omega) ?_
      intro v5 s5 is5 hle5 kb5 own5 nr5 wi5
      have one5 := own5.one
      have b5 : s5[X]? = some (.box [.t (.str key), v]) := (kb5 X (by omega) hX3).trans b4
      have b5t : ∀ o : Go.Ab.Obj, (s5.set X o)[X]? = some o := fun o => List.getElem?_set_self (by omega)
      simp -implicitDefEqProofs only [b5, b5t, one3, one_cells one3, one5, one_cells one5, S0, S1, S2, S3, S4, S5, S6, S7, S8, S9, S10, S11, S12, S13, S14, S15, S16, S17, opv, opvs, eget, env0, setD, lenStr, lenSl, isNilP, isNilS, putAt, if_true, if_false, reduceCtorEq, Nat.reduceLeDiff, Nat.reduceEqDiff, Nat.reduceSub, Nat.reduceMul, Nat.reduceAdd]
      have kp5 : Kp σ s5 := fun x hx => by rw [kb5 x (by omega) (fun hm => by have := wi3.2 x hm; omega)]; exact kp4 x hx
      have hX5 := box_out (ws := ws6 ++ [[49]]) (by simpa [tStrs, tStr] using own5) b5
      refine fin_keep (by simp; omega) (fits_end (ws := ws6 ++ [[49]]) (kp5.set (by omega)) (by simp; omega) (is := is5) ?_ hkl hkey (by simp; omega) fun w hw => ?_)
      · have : (ws6 ++ [[49]]).map tStr = ws6.map tStr ++ [[.str [49]]] := by simp [tStr]
        simp only [tStrs, this]
        exact own5.frame fun x hx => by rw [List.getElem?_set_ne (fun e => hX5 (by rw [e]; exact hx))]
      · rcases List.mem_append.1 hw with hw | hw
        · exact sm3 w hw
        · simp at hw; subst hw; simp
    simp -implicitDefEqProofs only [S0, S1, S2, S3, S4, S5, S6, S7, S8, S9, S10, S11, S12, S13, S14, S15, S16, S17, opv, opvs, eget, env0, setD, lenStr, lenSl, isNilP, isNilS, putAt, if_true, if_false, reduceCtorEq, Nat.reduceLeDiff, Nat.reduceEqDiff, Nat.reduceSub, Nat.reduceMul, Nat.reduceAdd]
    refine cond_split (fun hy1 => ?_) (fun hy1 => ?_)
    · have c1 : 0 < 2 ∧ 1 < 2 := by omega
      simp -implicitDefEqProofs only [b4, one3, one_cells one3, c1, List.replicate, S0, S1, S2, S3, S4, S5, S6, S7, S8, S9, S10, S11, S12, S13, S14, S15, S16, S17, opv, opvs, eget, env0, setD, lenStr, lenSl, isNilP, isNilS, putAt, if_true, if_false, reduceCtorEq, Nat.reduceLeDiff, Nat.reduceEqDiff, Nat.reduceSub, Nat.reduceMul, Nat.reduceAdd]
      try (refine lit_rows ?_; simp -implicitDefEqProofs only [b4, one3, one_cells one3, c1, S0, S1, S2, S3, S4, S5, S6, S7, S8, S9, S10, S11, S12, S13, S14, S15, S16, S17, opv, opvs, eget, env0, setD, lenStr, lenSl, isNilP, isNilS, putAt, if_true, if_false, reduceCtorEq, Nat.reduceLeDiff, Nat.reduceEqDiff, Nat.reduceSub, Nat.reduceMul, Nat.reduceAdd])
      refine call_by (by rw [List.append_nil]; exact pick_n l hl ((q + 1 + 1 + 2) + 1) 2 id (by omega) (by omega) (by omega) _ r4) ?_
      rintro r σ' ⟨y2, rfl, hy2, rfl⟩
      obtain ⟨s5, hs5⟩ : ∃ s5, s5 = s4.set id (.box (rdV l ((q + 1 + 1 + 2) + 1 + 1))) := ⟨_, rfl⟩
      have b5 : s5[X]? = some (.box [.t (.str key), v]) := by rw [hs5, List.getElem?_set_ne hne3]; exact b4
      have own5 : Own s5 (tStrs ws6) v is := own4.frame fun x hx => by rw [hs5, List.getElem?_set_ne (fun e => hid3 (by rw [e]; exact hx))]
      rw [← hs5]
      simp -implicitDefEqProofs only [b5, one3, S0, S1, S2, S3, S4, S5, S6, S7, S8, S9, S10, S11, S12, S13, S14, S15, S16, S17, opv, opvs, eget, env0, setD, lenStr, lenSl, isNilP, isNilS, putAt, if_true, if_false, reduceCtorEq, Nat.reduceLeDiff, Nat.reduceEqDiff, Nat.reduceSub, Nat.reduceMul, Nat.reduceAdd]
      refine And.intro (.inr ?_) ?_
      · refine ⟨fun _ => ⟨_, _, rfl, rfl, ?_⟩, fun _ => ⟨_, _, rfl, rfl, ?_⟩, trivial⟩
        · simp -implicitDefEqProofs only [ev, eqK, b5, one3, evLoad, onV, onBox, ldV, S0, S1, S2, S3, S4, S5, S6, S7, S8, S9, S10, S11, S12, S13, S14, S15, S16, S17, opv, opvs, eget, env0, setD, lenStr, lenSl, isNilP, isNilS, putAt, if_true, if_false, reduceCtorEq, Nat.reduceLeDiff, Nat.reduceEqDiff, Nat.reduceSub, Nat.reduceMul, Nat.reduceAdd]
        · simp -implicitDefEqProofs only [ev, eqK, b5, one3, evLoad, onV, onBox, ldV, S0, S1, S2, S3, S4, S5, S6, S7, S8, S9, S10, S11, S12, S13, S14, S15, S16, S17, opv, opvs, eget, env0, setD, lenStr, lenSl, isNilP, isNilS, putAt, if_true, if_false, reduceCtorEq, Nat.reduceLeDiff, Nat.reduceEqDiff, Nat.reduceSub, Nat.reduceMul, Nat.reduceAdd]
      try simp -implicitDefEqProofs only [nat_nn, Nat.zero_le, Int.toNat_natCast, S0, S1, S2, S3, S4, S5, S6, S7, S8, S9, S10, S11, S12, S13, S14, S15, S16, S17, opv, opvs, eget, env0, setD, lenStr, lenSl, isNilP, isNilS, putAt, if_true, if_false, reduceCtorEq, Nat.reduceLeDiff, Nat.reduceEqDiff, Nat.reduceSub, Nat.reduceMul, Nat.reduceAdd]
      refine pick_row (m := 20) (by decide) (by simpa using hy2) ?_
      intro w hw
      simp -implicitDefEqProofs only [one3, one_cells one3, S0, S1, S2, S3, S4, S5, S6, S7, S8, S9, S10, S11, S12, S13, S14, S15, S16, S17, opv, opvs, eget, env0, setD, lenStr, lenSl, isNilP, isNilS, putAt, if_true, if_false, reduceCtorEq, Nat.reduceLeDiff, Nat.reduceEqDiff, Nat.reduceSub, Nat.reduceMul, Nat.reduceAdd]
      exact fin_keep (by rw [hs5]; simp; omega) (fits_end (by rw [hs5]; exact kp4.set (by omega)) (by rw [hs5]; simp; omega) own5 hw hkey (by omega) sm3)
    simp -implicitDefEqProofs only [S0, S1, S2, S3, S4, S5, S6, S7, S8, S9, S10, S11, S12, S13, S14, S15, S16, S17, opv, opvs, eget, env0, setD, lenStr, lenSl, isNilP, isNilS, putAt, if_true, if_false, reduceCtorEq, Nat.reduceLeDiff, Nat.reduceEqDiff, Nat.reduceSub, Nat.reduceMul, Nat.reduceAdd]
    refine cond_split (fun hy2 => ?_) (fun hy2 => ?_)
    · have c1 : 0 < 4 ∧ 1 < 4 ∧ 2 < 4 ∧ 3 < 4 := by omega
      simp -implicitDefEqProofs only [b4, one3, one_cells one3, c1, List.replicate, S0, S1, S2, S3, S4, S5, S6, S7, S8, S9, S10, S11, S12, S13, S14, S15, S16, S17, opv, opvs, eget, env0, setD, lenStr, lenSl, isNilP, isNilS, putAt, if_true, if_false, reduceCtorEq, Nat.reduceLeDiff, Nat.reduceEqDiff, Nat.reduceSub, Nat.reduceMul, Nat.reduceAdd]
      refine lit_rows ?_
      simp -implicitDefEqProofs only [b4, one3, one_cells one3, c1, S0, S1, S2, S3, S4, S5, S6, S7, S8, S9, S10, S11, S12, S13, S14, S15, S16, S17, opv, opvs, eget, env0, setD, lenStr, lenSl, isNilP, isNilS, putAt, if_true, if_false, reduceCtorEq, Nat.reduceLeDiff, Nat.reduceEqDiff, Nat.reduceSub, Nat.reduceMul, Nat.reduceAdd]
      refine call_by (by rw [List.append_nil]; exact pick_n l hl ((q + 1 + 1 + 2) + 1) 4 id (by omega) (by omega) (by omega) _ r4) ?_
      rintro r σ' ⟨y2, rfl, hy3, rfl⟩
      obtain ⟨s5, hs5⟩ : ∃ s5, s5 = s4.set id (.box (rdV l ((q + 1 + 1 + 2) + 1 + 1))) := ⟨_, rfl⟩
      have l5 : s5.length = t6.length := by rw [hs5, List.length_set, l4]
      have b5 : s5[X]? = some (.box [.t (.str key), v]) := by rw [hs5, List.getElem?_set_ne hne3]; exact b4
      have b5t : ∀ o : Go.Ab.Obj, (s5.set X o)[X]? = some o := fun o => List.getElem?_set_self (by omega)
      have own5 : Own s5 (tStrs ws6) v is := own4.frame fun x hx => by rw [hs5, List.getElem?_set_ne (fun e => hid3 (by rw [e]; exact hx))]
      rw [← hs5]
      simp -implicitDefEqProofs only [b5, one3, nat_nn, Nat.zero_le, Int.toNat_natCast, S0, S1, S2, S3, S4, S5, S6, S7, S8, S9, S10, S11, S12, S13, S14, S15, S16, S17, opv, opvs, eget, env0, setD, lenStr, lenSl, isNilP, isNilS, putAt, if_true, if_false, reduceCtorEq, Nat.reduceLeDiff, Nat.reduceEqDiff, Nat.reduceSub, Nat.reduceMul, Nat.reduceAdd]
      refine pick_row (m := 20) (by decide) (by simpa using hy3) ?_
      intro w hw
      simp -implicitDefEqProofs only [b5, b5t, one3, one_cells one3, S0, S1, S2, S3, S4, S5, S6, S7, S8, S9, S10, S11, S12, S13, S14, S15, S16, S17, opv, opvs, eget, env0, setD, lenStr, lenSl, isNilP, isNilS, putAt, if_true, if_false, reduceCtorEq, Nat.reduceLeDiff, Nat.reduceEqDiff, Nat.reduceSub, Nat.reduceMul, Nat.reduceAdd]
      exact fin_keep (by rw [List.length_set]; omega) (fits_end ((by rw [hs5]; exact kp4.set (by omega) : Kp σ s5).set (by omega)) (by rw [List.length_set]; omega) (own5.frame fun x hx => by rw [List.getElem?_set_ne (fun e => hX3 (by rw [e]; exact hx))]) hkl hw (by omega) sm3)
    simp -implicitDefEqProofs only [b4, one3, one_cells one3, S0, S1, S2, S3, S4, S5, S6, S7, S8, S9, S10, S11, S12, S13, S14, S15, S16, S17, opv, opvs, eget, env0, setD, lenStr, lenSl, isNilP, isNilS, putAt, if_true, if_false, reduceCtorEq, Nat.reduceLeDiff, Nat.reduceEqDiff, Nat.reduceSub, Nat.reduceMul, Nat.reduceAdd]
    exact fin_keep (by omega) (fits_end kp4 (by omega) own4 hkl hkey (by omega) sm3)
  · simp -implicitDefEqProofs only [S0, S1, S2, S3, S4, S5, S6, S7, S8, S9, S10, S11, S12, S13, S14, S15, S16, S17, opv, opvs, eget, env0, setD, lenStr, lenSl, isNilP, isNilS, putAt, if_true, if_false, reduceCtorEq, Nat.reduceLeDiff, Nat.reduceEqDiff, Nat.reduceSub, Nat.reduceMul, Nat.reduceAdd]
    have nr3 := hdw.nr
    have wi3 : Wi is (id + 1) t3.length := hwi.mono (by omega) (by omega)
    have sm3 := hdw.sm
    have hr3l := rd_len r3
    have hb3l := rd_len b3
    have one3 := own3.one
    have hne3 : id ≠ X := by omega
    have hid3 : id ∉ is := box_out own3 r3
    have hX3 : X ∉ is := box_out own3 b3
    refine call_by (by rw [List.append_nil]; exact pick_n l hl (q + 1) 10 id (by omega) (by omega) (by omega) _ r3) ?_
    rintro r σ' ⟨y, rfl, hy, rfl⟩
    obtain ⟨s4, hs4⟩ : ∃ s4, s4 = t3.set id (.box (rdV l ((q + 1) + 1))) := ⟨_, rfl⟩
    have l4 : s4.length = t3.length := by rw [hs4, List.length_set]
    have r4 : s4[id]? = some (.box (rdV l ((q + 1) + 1))) := by rw [hs4]; exact List.getElem?_set_self hr3l
    have b4 : s4[X]? = some (.box [.t (.str key), v]) := by rw [hs4, List.getElem?_set_ne hne3]; exact b3
    have own4 : Own s4 (tStrs ws) v is := own3.frame fun x hx => by rw [hs4, List.getElem?_set_ne (fun e => hid3 (by rw [e]; exact hx))]
    have kp4 : Kp σ s4 := by rw [hs4]; exact kp3.set (by omega)
    rw [← hs4]
    simp -implicitDefEqProofs only [S0, S1, S2, S3, S4, S5, S6, S7, S8, S9, S10, S11, S12, S13, S14, S15, S16, S17, opv, opvs, eget, env0, setD, lenStr, lenSl, isNilP, isNilS, putAt, if_true, if_false, reduceCtorEq, Nat.reduceLeDiff, Nat.reduceEqDiff, Nat.reduceSub, Nat.reduceMul, Nat.reduceAdd]
    refine cond_split (fun hy0 => ?_) (fun hy0 => ?_)
    · have c1 : 0 < 1 := by omega
      simp -implicitDefEqProofs only [b4, one3, one_cells one3, c1, S0, S1, S2, S3, S4, S5, S6, S7, S8, S9, S10, S11, S12, S13, S14, S15, S16, S17, opv, opvs, eget, env0, setD, lenStr, lenSl, isNilP, isNilS, putAt, if_true, if_false, reduceCtorEq, Nat.reduceLeDiff, Nat.reduceEqDiff, Nat.reduceSub, Nat.reduceMul, Nat.reduceAdd]
      refine lit_rows ?_
      have hrow : ∀ (s : Store), rowsOf s 1 (.rows 1 [[.t (.str [49])]]) = some [[.t (.str [49])]] := fun s => rowsOf_rows rfl
      simp -implicitDefEqProofs only [b4, one3, one_cells one3, c1, hrow, S0, S1, S2, S3, S4, S5, S6, S7, S8, S9, S10, S11, S12, S13, S14, S15, S16, S17, opv, opvs, eget, env0, setD, lenStr, lenSl, isNilP, isNilS, putAt, if_true, if_false, reduceCtorEq, Nat.reduceLeDiff, Nat.reduceEqDiff, Nat.reduceSub, Nat.reduceMul, Nat.reduceAdd]
      refine app_own (rows := ws.map tStr) (r := [.str [49]]) (is := is) (js := []) (a := id + 1) own4 nr3 (by rw [l4]; exact wi3) (ownL_flat [T.str [49]] (by simp [scalar])) Wi.nil (fun _ _ => by simp) (by omega) (by rw [List.length_map]; simp only [maxBy]; omega) (by rw [List.length_map]; omega) ?_
      intro v5 s5 is5 hle5 kb5 own5 nr5 wi5
      have one5 := own5.one
      have b5 : s5[X]? = some (.box [.t (.str key), v]) := (kb5 X (by omega) hX3).trans b4
      have b5t : ∀ o : Go.Ab.Obj, (s5.set X o)[X]? = some o := fun o => List.getElem?_set_self (by omega)
      simp -implicitDefEqProofs only [b5, b5t, one3, one_cells one3, one5, one_cells one5, S0, S1, S2, S3, S4, S5, S6, S7, S8, S9, S10, S11, S12, S13, S14, S15, S16, S17, opv, opvs, eget, env0, setD, lenStr, lenSl, isNilP, isNilS, putAt, if_true, if_false, reduceCtorEq, Nat.reduceLeDiff, Nat.reduceEqDiff, Nat.reduceSub, Nat.reduceMul, Nat.reduceAdd]
      have kp5 : Kp σ s5 := fun x hx => by rw [kb5 x (by omega) (fun hm => by have := wi3.2 x hm; omega)]; exact kp4 x hx
      have hX5 := box_out (ws := ws ++ [[49]]) (by simpa [tStrs, tStr] using own5) b5
      refine fin_keep (by simp; omega) (fits_end (ws := ws ++ [[49]]) (kp5.set (by omega)) (by simp; omega) (is := is5) ?_ hkl hkey (by simp; omega) fun w hw => ?_)
      · have : (ws ++ [[49]]).map tStr = ws.map tStr ++ [[.str [49]]] := by simp [tStr]
        simp only [tStrs, this]
        exact own5.frame fun x hx => by rw [List.getElem?_set_ne (fun e => hX5 (by rw [e]; exact hx))]
      · rcases List.mem_append.1 hw with hw | hw
        · exact sm3 w hw
        · simp at hw; subst hw; simp
    simp -implicitDefEqProofs only [S0, S1, S2, S3, S4, S5, S6, S7, S8, S9, S10, S11, S12, S13, S14, S15, S16, S17, opv, opvs, eget, env0, setD, lenStr, lenSl, isNilP, isNilS, putAt, if_true, if_false, reduceCtorEq, Nat.reduceLeDiff, Nat.reduceEqDiff, Nat.reduceSub, Nat.reduceMul, Nat.reduceAdd]
    refine cond_split (fun hy1 => ?_) (fun hy1 => ?_)
    · have c1 : 0 < 2 ∧ 1 < 2 := by omega
      simp -implicitDefEqProofs only [b4, one3, one_cells one3, c1, List.replicate, S0, S1, S2, S3, S4, S5, S6, S7, S8, S9, S10, S11, S12, S13, S14, S15, S16, S17, opv, opvs, eget, env0, setD, lenStr, lenSl, isNilP, isNilS, putAt, if_true, if_false, reduceCtorEq, Nat.reduceLeDiff, Nat.reduceEqDiff, Nat.reduceSub, Nat.reduceMul, Nat.reduceAdd]
      try (refine lit_rows ?_; simp -implicitDefEqProofs only [b4, one3, one_cells one3, c1, S0, S1, S2, S3, S4, S5, S6, S7, S8, S9, S10, S11, S12, S13, S14, S15, S16, S17, opv, opvs, eget, env0, setD, lenStr, lenSl, isNilP, isNilS, putAt, if_true, if_false, reduceCtorEq, Nat.reduceLeDiff, Nat.reduceEqDiff, Nat.reduceSub, Nat.reduceMul, Nat.reduceAdd])
      refine call_by (by rw [List.append_nil]; exact pick_n l hl ((q + 1) + 1) 2 id (by omega) (by omega) (by omega) _ r4) ?_
      rintro r σ' ⟨y2, rfl, hy2, rfl⟩
      obtain ⟨s5, hs5⟩ : ∃ s5, s5 = s4.set id (.box (rdV l ((q + 1) + 1 + 1))) := ⟨_, rfl⟩
      have b5 : s5[X]? = some (.box [.t (.str key), v]) := by rw [hs5, List.getElem?_set_ne hne3]; exact b4
      have own5 : Own s5 (tStrs ws) v is := own4.frame fun x hx => by rw [hs5, List.getElem?_set_ne (fun e => hid3 (by rw [e]; exact hx))]
      rw [← hs5]
      simp -implicitDefEqProofs only [b5, one3, S0, S1, S2, S3, S4, S5, S6, S7, S8, S9, S10, S11, S12, S13, S14, S15, S16, S17, opv, opvs, eget, env0, setD, lenStr, lenSl, isNilP, isNilS, putAt, if_true, if_false, reduceCtorEq, Nat.reduceLeDiff, Nat.reduceEqDiff, Nat.reduceSub, Nat.reduceMul, Nat.reduceAdd]
      refine And.intro (.inr ?_) ?_
      · refine ⟨fun _ => ⟨_, _, rfl, rfl, ?_⟩, fun _ => ⟨_, _, rfl, rfl, ?_⟩, trivial⟩
        · simp -implicitDefEqProofs only [ev, eqK, b5, one3, evLoad, onV, onBox, ldV, S0, S1, S2, S3, S4, S5, S6, S7, S8, S9, S10, S11, S12, S13, S14, S15, S16, S17, opv, opvs, eget, env0, setD, lenStr, lenSl, isNilP, isNilS, putAt, if_true, if_false, reduceCtorEq, Nat.reduceLeDiff, Nat.reduceEqDiff, Nat.reduceSub, Nat.reduceMul, Nat.reduceAdd]
        · simp -implicitDefEqProofs only [ev, eqK, b5, one3, evLoad, onV, onBox, ldV, S0, S1, S2, S3, S4, S5, S6, S7, S8, S9, S10, S11, S12, S13, S14, S15, S16, S17, opv, opvs, eget, env0, setD, lenStr, lenSl, isNilP, isNilS, putAt, if_true, if_false, reduceCtorEq, Nat.reduceLeDiff, Nat.reduceEqDiff, Nat.reduceSub, Nat.reduceMul, Nat.reduceAdd]
      try simp -implicitDefEqProofs only [nat_nn, Nat.zero_le, Int.toNat_natCast, S0, S1, S2, S3, S4, S5, S6, S7, S8, S9, S10, S11, S12, S13, S14, S15, S16, S17, opv, opvs, eget, env0, setD, lenStr, lenSl, isNilP, isNilS, putAt, if_true, if_false, reduceCtorEq, Nat.reduceLeDiff, Nat.reduceEqDiff, Nat.reduceSub, Nat.reduceMul, Nat.reduceAdd]
      refine pick_row (m := 20) (by decide) (by simpa using hy2) ?_
      intro w hw
      simp -implicitDefEqProofs only [one3, one_cells one3, S0, S1, S2, S3, S4, S5, S6, S7, S8, S9, S10, S11, S12, S13, S14, S15, S16, S17, opv, opvs, eget, env0, setD, lenStr, lenSl, isNilP, isNilS, putAt, if_true, if_false, reduceCtorEq, Nat.reduceLeDiff, Nat.reduceEqDiff, Nat.reduceSub, Nat.reduceMul, Nat.reduceAdd]
      exact fin_keep (by rw [hs5]; simp; omega) (fits_end (by rw [hs5]; exact kp4.set (by omega)) (by rw [hs5]; simp; omega) own5 hw hkey (by omega) sm3)
    simp -implicitDefEqProofs only [S0, S1, S2, S3, S4, S5, S6, S7, S8, S9, S10, S11, S12, S13, S14, S15, S16, S17, opv, opvs, eget, env0, setD, lenStr, lenSl, isNilP, isNilS, putAt, if_true, if_false, reduceCtorEq, Nat.reduceLeDiff, Nat.reduceEqDiff, Nat.reduceSub, Nat.reduceMul, Nat.reduceAdd]
    refine cond_split (fun hy2 => ?_) (fun hy2 => ?_)
    · have c1 : 0 < 4 ∧ 1 < 4 ∧ 2 < 4 ∧ 3 < 4 := by omega
      simp -implicitDefEqProofs only [b4, one3, one_cells one3, c1, List.replicate, S0, S1, S2, S3, S4, S5, S6, S7, S8, S9, S10, S11, S12, S13, S14, S15, S16, S17, opv, opvs, eget, env0, setD, lenStr, lenSl, isNilP, isNilS, putAt, if_true, if_false, reduceCtorEq, Nat.reduceLeDiff, Nat.reduceEqDiff, Nat.reduceSub, Nat.reduceMul, Nat.reduceAdd]
      refine lit_rows ?_
      simp -implicitDefEqProofs only [b4, one3, one_cells one3, c1, S0, S1, S2, S3, S4, S5, S6, S7, S8, S9, S10, S11, S12, S13, S14, S15, S16, S17, opv, opvs, eget, env0, setD, lenStr, lenSl, isNilP, isNilS, putAt, if_true, if_false, reduceCtorEq, Nat.reduceLeDiff, Nat.reduceEqDiff, Nat.reduceSub, Nat.reduceMul, Nat.reduceAdd]
      refine call_by (by rw [List.append_nil]; exact pick_n l hl ((q + 1) + 1) 4 id (by omega) (by omega) (by omega) _ r4) ?_
      rintro r σ' ⟨y2, rfl, hy3, rfl⟩
      obtain ⟨s5, hs5⟩ : ∃ s5, s5 = s4.set id (.box (rdV l ((q + 1) + 1 + 1))) := ⟨_, rfl⟩
      have l5 : s5.length = t3.length := by rw [hs5, List.length_set, l4]
      have b5 : s5[X]? = some (.box [.t (.str key), v]) := by rw [hs5, List.getElem?_set_ne hne3]; exact b4
      have b5t : ∀ o : Go.Ab.Obj, (s5.set X o)[X]? = some o := fun o => List.getElem?_set_self (by omega)
      have own5 : Own s5 (tStrs ws) v is := own4.frame fun x hx => by rw [hs5, List.getElem?_set_ne (fun e => hid3 (by rw [e]; exact hx))]
      rw [← hs5]
      simp -implicitDefEqProofs only [b5, one3, nat_nn, Nat.zero_le, Int.toNat_natCast, S0, S1, S2, S3, S4, S5, S6, S7, S8, S9, S10, S11, S12, S13, S14, S15, S16, S17, opv, opvs, eget, env0, setD, lenStr, lenSl, isNilP, isNilS, putAt, if_true, if_false, reduceCtorEq, Nat.reduceLeDiff, Nat.reduceEqDiff, Nat.reduceSub, Nat.reduceMul, Nat.reduceAdd]
      refine pick_row (m := 20) (by decide) (by simpa using hy3) ?_
      intro w hw
      simp -implicitDefEqProofs only [b5, b5t, one3, one_cells one3, S0, S1, S2, S3, S4, S5, S6, S7, S8, S9, S10, S11, S12, S13, S14, S15, S16, S17, opv, opvs, eget, env0, setD, lenStr, lenSl, isNilP, isNilS, putAt, if_true, if_false, reduceCtorEq, Nat.reduceLeDiff, Nat.reduceEqDiff, Nat.reduceSub, Nat.reduceMul, Nat.reduceAdd]
      exact fin_keep (by rw [List.length_set]; omega) (fits_end ((by rw [hs5]; exact kp4.set (by omega) : Kp σ s5).set (by omega)) (by rw [List.length_set]; omega) (own5.frame fun x hx => by rw [List.getElem?_set_ne (fun e => hX3 (by rw [e]; exact hx))]) hkl hw (by omega) sm3)
    simp -implicitDefEqProofs only [b4, one3, one_cells one3, S0, S1, S2, S3, S4, S5, S6, S7, S8, S9, S10, S11, S12, S13, S14, S15, S16, S17, opv, opvs, eget, env0, setD, lenStr, lenSl, isNilP, isNilS, putAt, if_true, if_false, reduceCtorEq, Nat.reduceLeDiff, Nat.reduceEqDiff, Nat.reduceSub, Nat.reduceMul, Nat.reduceAdd]
    exact fin_keep (by omega) (fits_end kp4 (by omega) own4 hkl hkey (by omega) sm3)

end Go.Proofs.YtkppdeobinefbaaDoor.W

end
