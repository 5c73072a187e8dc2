/- Which shapes are ok, of the program. Conditions: none. -/
/- Which lists of shapes are ok. Conditions: none. -/
import Derived.Test.YtcjchimenfadkaaGateShapesM
import Derived.Test.YtcjchimenfadkaaAb4
set_option linter.unusedSimpArgs false
set_option linter.unusedVariables false
set_option linter.defProp false

section
open Go Go.Ab
set_option maxHeartbeats 2000000
namespace Go.Proofs.Ytcjchimenfadkaa.W
theorem m_clean1 : methodOf Try.prog 90 "loop.example/wharfdesk/impl.clean" = some 78 := by kernel_rfl
theorem m_sound1 : methodOf Try.prog 90 "loop.example/wharfdesk/impl.sound" = some 80 := by kernel_rfl
theorem m_clean2 : methodOf Try.prog 92 "loop.example/wharfdesk/impl.clean" = some 82 := by kernel_rfl
theorem m_sound2 : methodOf Try.prog 92 "loop.example/wharfdesk/impl.sound" = some 84 := by kernel_rfl
theorem m_clean3 : methodOf Try.prog 93 "loop.example/wharfdesk/impl.clean" = some 85 := by kernel_rfl
theorem m_sound3 : methodOf Try.prog 93 "loop.example/wharfdesk/impl.sound" = some 87 := by kernel_rfl
theorem m_clean4 : methodOf Try.prog 94 "loop.example/wharfdesk/impl.clean" = some 88 := by kernel_rfl
theorem m_sound4 : methodOf Try.prog 94 "loop.example/wharfdesk/impl.sound" = some 90 := by kernel_rfl
def cntV (n : Nat) : V := .t (.int .i64 (n : Nat))
structure MB where
  k : Nat
  c : Nat
  es : List ME
def kStr (s : List UInt8) : V := .t (.str s)
def MB.I (b : List UInt8 → Bool) (fs : List GateField) (g : MB) : Prop := g.k ≤ fs.length ∧ (fs.zipIdx.take g.k).all (fieldP b fs) = true ∧ (∃ f, MapIs kStr g.c g.es f ∧ ∀ p, (f p).getD (.t (.int .i64 0)) = cntV (cntN (fs.take g.k) p)) ∧ MLt g.es
theorem lt_stbm {σ : Store} {cs : List V} {es : List ME} (h : MLt es) (c : Nat) (hσ : ltσ σ.length σ = true) (hc : V.lts (σ.length + 2) cs = true) : ltσ (σ.length + 2) (σ ++ [.box cs, .map c es]) = true := by
  simp only [ltσ, List.all_append, Bool.and_eq_true, List.all_cons, List.all_nil, Bool.and_true]
  exact ⟨ltσ_mono (by omega) hσ, hc, h.lt _ _⟩

def c_impl_shapeOk : C := (.seq (.ops [⟨(some 2), none, (.box (.t 0))⟩, ⟨(some 4), none, (.mv (.c (.t (.bool false))))⟩]) (.seq (.seq (.ops [⟨(some 10), none, (.fieldAddr 1 (.t 2))⟩, ⟨(some 11), none, (.load none (.t 10))⟩, ⟨(some 12), none, (.len false (.t 11))⟩, ⟨(some 13), none, (.bin .gtr (.t 12) (.c (.t (.int .i64 6))))⟩]) (.cond (.t 13) (.seq (.ops [⟨(some 4), none, (.mv (.c (.t (.bool false))))⟩]) .ret) .skip)) (.seq (.ops [⟨(some 14), none, .mkMap⟩, ⟨(some 5), none, (.mv (.t 14))⟩]) (.seq (.seq (.ops [⟨(some 15), none, (.fieldAddr 1 (.t 2))⟩, ⟨(some 16), none, (.load none (.t 15))⟩, ⟨(some 17), none, (.len false (.t 16))⟩, ⟨(some 18), none, (.mv (.c (.t (.int .i64 0))))⟩]) (.block 0 (.loop (.seq (.ops [⟨(some 19), none, (.bin .lss (.t 18) (.t 17))⟩]) (.seq (.cond (.t 19) .skip (.exit 0)) (.seq (.block 1 (.seq (.ops [⟨(some 20), none, (.indexAddr 11 (.t 16) (.t 18))⟩, ⟨(some 21), none, (.load (some 11) (.t 20))⟩, ⟨(some 7), none, (.new [(.t (.str [])), (.t (.int .i64 0)), (.t (.int .i64 0)), (.t (.int .i64 0)), .nils, (.t (.str [])), (.t (.int .i64 0)), (.t (.bool false)), (.t (.bool false)), (.t (.str [])), (.t (.str []))])⟩, ⟨none, none, (.store 11 (.t 7) (.t 21))⟩]) (.seq (.ops [⟨(some 22), none, (.mv (.t 5))⟩, ⟨(some 23), none, (.fieldAddr 0 (.t 7))⟩, ⟨(some 24), none, (.load none (.t 23))⟩, ⟨(some 25), none, (.look (.one .str) false (.t (.int .i64 0)) (.t 22) (.t 24))⟩, ⟨(some 26), none, (.bin .add (.t 25) (.c (.t (.int .i64 1))))⟩, ⟨none, none, (.mapUp (.one .str) (.t 22) (.t 24) (.t 26))⟩]) (.seq (.seq (.ops [⟨(some 27), none, (.fieldAddr 0 (.t 7))⟩, ⟨(some 28), none, (.load none (.t 27))⟩, ⟨(some 29), none, (.call (.c (.fn (.func 50) [])) [(.t 28)])⟩, ⟨(some 30), none, (.un .not (.t 29))⟩, ⟨(some 31), none, (.mv (.t 30))⟩, ⟨(some 32), (some ⟨31, false⟩), (.mv (.t 5))⟩, ⟨(some 33), (some ⟨31, false⟩), (.fieldAddr 0 (.t 7))⟩, ⟨(some 34), (some ⟨31, false⟩), (.load none (.t 33))⟩, ⟨(some 35), (some ⟨31, false⟩), (.look (.one .str) false (.t (.int .i64 0)) (.t 32) (.t 34))⟩, ⟨(some 36), (some ⟨31, false⟩), (.bin .gtr (.t 35) (.c (.t (.int .i64 1))))⟩, ⟨(some 37), none, (.pick (.t 31) (.c (.t (.bool true))) (.t 36))⟩]) (.cond (.t 37) (.seq (.ops [⟨(some 4), none, (.mv (.c (.t (.bool false))))⟩]) .ret) .skip)) (.seq (.ops [⟨(some 39), none, (.load (some 11) (.t 7))⟩, ⟨(some 40), none, (.call (.c (.fn (.func 51) [])) [(.t 39)])⟩, ⟨(some 38), none, (.mv (.t 40))⟩, ⟨(some 41), none, (.extract (.t 38) 0)⟩, ⟨(some 42), none, (.extract (.t 38) 1)⟩, ⟨(some 8), none, (.mv (.t 41))⟩, ⟨(some 9), none, (.mv (.t 42))⟩]) (.seq (.seq (.ops [⟨(some 43), none, (.mv (.t 9))⟩, ⟨(some 44), none, (.un .not (.t 43))⟩, ⟨(some 45), none, (.mv (.t 44))⟩, ⟨(some 46), (some ⟨45, false⟩), (.mv (.t 8))⟩, ⟨(some 47), (some ⟨45, false⟩), (.call (.m 46 "loop.example/wharfdesk/impl.clean") [])⟩, ⟨(some 48), (some ⟨45, false⟩), (.un .not (.t 47))⟩, ⟨(some 49), none, (.pick (.t 45) (.c (.t (.bool true))) (.t 48))⟩, ⟨(some 50), none, (.mv (.t 49))⟩, ⟨(some 51), (some ⟨50, false⟩), (.mv (.t 8))⟩, ⟨(some 52), (some ⟨50, false⟩), (.mv (.t 1))⟩, ⟨(some 53), (some ⟨50, false⟩), (.call (.m 51 "loop.example/wharfdesk/impl.sound") [(.t 52)])⟩, ⟨(some 54), (some ⟨50, false⟩), (.un .not (.t 53))⟩, ⟨(some 55), none, (.pick (.t 50) (.c (.t (.bool true))) (.t 54))⟩]) (.cond (.t 55) (.seq (.ops [⟨(some 4), none, (.mv (.c (.t (.bool false))))⟩]) .ret) .skip)) (.seq (.ops [⟨(some 56), none, (.fieldAddr 9 (.t 7))⟩, ⟨(some 57), none, (.load none (.t 56))⟩, ⟨(some 58), none, (.bin .neq (.t 57) (.c (.t (.str []))))⟩, ⟨(some 59), none, (.mv (.t 58))⟩, ⟨(some 60), (some ⟨59, true⟩), (.load (some 11) (.t 7))⟩, ⟨(some 61), (some ⟨59, true⟩), (.fieldAddr 9 (.t 7))⟩, ⟨(some 62), (some ⟨59, true⟩), (.load none (.t 61))⟩, ⟨(some 63), (some ⟨59, true⟩), (.call (.c (.fn (.func 39) [])) [(.t 60), (.t 62)])⟩, ⟨(some 64), (some ⟨59, true⟩), (.un .not (.t 63))⟩, ⟨(some 65), none, (.pick (.t 59) (.t 64) (.c (.t (.bool false))))⟩]) (.cond (.t 65) (.seq (.ops [⟨(some 4), none, (.mv (.c (.t (.bool false))))⟩]) .ret) .skip)))))))) (.ops [⟨(some 66), none, (.bin .add (.t 18) (.c (.t (.int .i64 1))))⟩, ⟨(some 18), none, (.mv (.t 66))⟩]))))))) (.seq (.ops [⟨(some 4), none, (.mv (.c (.t (.bool true))))⟩]) .ret)))))
theorem k_impl_shapeOk : comp Try.prog 67 (Try.f36.body.getD .skip) = some c_impl_shapeOk := by kernel_rfl

theorem impl_shapeOk (s : GateShape) (hs : s.Ok) (l : List (List UInt8)) (hl : l.length ≤ 1048576)  (σ : Store) : ACalls Try.prog 36 [.agg (s.vs), .t (tStrs l)] σ fun rr σ' => rr = .t (.bool (shapeG (hasW l) s)) ∧ σ' = σ := by
  refine acalls_of Try.func36 (by decide +kernel) (code := Try.f36.body.getD .skip) (n := 67) (c := c_impl_shapeOk) (rs := [(.tmp 4)]) rfl rfl k_impl_shapeOk (by kernel_rfl) (by simp) (fun hσ => ?_)
  have hh : True := trivial
  have fin : ∀ {u : V} {τ : Store}, u = .t (.bool (shapeG (hasW l) s)) → u.lt σ.length = true → retV σ.length (fun rr σ' => rr = .t (.bool (shapeG (hasW l) s)) ∧ σ' = σ) (σ ++ τ) (some [u]) := fun h h2 => ret_same rfl hσ h2 ⟨h, rfl⟩
  have fin0 : ∀ {u : V}, u = .t (.bool (shapeG (hasW l) s)) → retV σ.length (fun rr σ' => rr = .t (.bool (shapeG (hasW l) s)) ∧ σ' = σ) σ (some [u]) := fun h => ret_same0 rfl ⟨h, rfl⟩
  have y1 := hs.Fields.1
  simp -implicitDefEqProofs only [c_impl_shapeOk, GateShape.vs, List.length_map, S0, S1, S2, S3, S4, S5, S6, S7, S8, S9, S10, S11, S12, S13, S14, S15, S16, S17, opv, opvs, eget, env0, setD, lenStr, lenSl, isNilP, isNilS, putAt, if_true, if_false, reduceCtorEq, Nat.reduceLeDiff, Nat.reduceEqDiff, Nat.reduceSub, Nat.reduceMul, Nat.reduceAdd]
  refine cond_split (fun hb0 => ?_) (fun hb0 => ?_)
  · have hb1 : decide ((s.Fields.length : Int) ≤ 6) = false := by simp at hb0 ⊢; omega
    try simp -implicitDefEqProofs only [S0, S1, S2, S3, S4, S5, S6, S7, S8, S9, S10, S11, S12, S13, S14, S15, S16, S17, opv, opvs, eget, env0, setD, lenStr, lenSl, isNilP, isNilS, putAt, if_true, if_false, reduceCtorEq, Nat.reduceLeDiff, Nat.reduceEqDiff, Nat.reduceSub, Nat.reduceMul, Nat.reduceAdd]
    exact fin (tb (by rw [shapeG, hb1]; rfl)) rfl
  have hb1 : decide ((s.Fields.length : Int) ≤ 6) = true := by simp at hb0 ⊢; omega
  obtain ⟨fs, hfs⟩ : ∃ fs, fs = s.Fields := ⟨_, rfl⟩
  have hfo := hs.Fields
  have hres : shapeG (hasW l) s = fs.zipIdx.all (fieldP (hasW l) fs) := by rw [shapeG, hb1, hfs]; rfl
  rw [← hfs] at y1 hfo ⊢
  simp -implicitDefEqProofs only [List.length_map, S0, S1, S2, S3, S4, S5, S6, S7, S8, S9, S10, S11, S12, S13, S14, S15, S16, S17, opv, opvs, eget, env0, setD, lenStr, lenSl, isNilP, isNilS, putAt, if_true, if_false, reduceCtorEq, Nat.reduceLeDiff, Nat.reduceEqDiff, Nat.reduceSub, Nat.reduceMul, Nat.reduceAdd]
  refine loop_s [18, 1, 5, 16, 17] [1, 5, 16, 17] (fun g : MB => [(18, .t (.int .i64 (g.k : Nat)))]) (fun g => σ ++ [.box [.t (.str s.Kind), .t (.lst 11 (fs.map GateField.ts))], .map g.c g.es]) (MB.I (hasW l) fs) (fun g => fs.length - g.k) ⟨0, 0, []⟩ (σ.length + 2) (fun g => by simp) (by omega) ⟨Nat.zero_le _, rfl, ⟨_, MapIs.nil, fun p => rfl⟩, MLt.nil⟩ rfl rfl ?_
  rintro ⟨k, c, es⟩ ⟨hk', hall, ⟨f, hf0, hfv⟩, hlt0⟩
  simp only at hk' hall hf0 hfv hlt0
  simp -implicitDefEqProofs only [keep, List.length_map, S0, S1, S2, S3, S4, S5, S6, S7, S8, S9, S10, S11, S12, S13, S14, S15, S16, S17, opv, opvs, eget, env0, setD, lenStr, lenSl, isNilP, isNilS, putAt, if_true, if_false, reduceCtorEq, Nat.reduceLeDiff, Nat.reduceEqDiff, Nat.reduceSub, Nat.reduceMul, Nat.reduceAdd]
  refine cond_split (fun h1 => ?_) (fun h1 => ?_)
  · obtain ⟨x, hx, hlt⟩ := at_of h1
    have more := i64_succ (show k < 4611686018427387904 by omega)
    have hxo := hfo.2 x (List.mem_of_getElem? hx)
    clear h1
    have hfl := hf0.look (.t (.int .i64 0)) x.Name
    rw [hfv] at hfl
    obtain ⟨n, hn⟩ : ∃ n, n = cntN (fs.take k) x.Name := ⟨_, rfl⟩
    have hnle : n ≤ k := by rw [hn]; exact cntN_le fs k x.Name
    rw [← hn, cntV] at hfl
    have hko : keysOk (.one .str) es = true := hf0.keys (fun _ => rfl)
    have hl1 : lookR false (.t (.int .i64 0)) (findM (.t (.str x.Name)) es) = .t (.int .i64 (n : Nat)) := hfl
    have hf' := hf0.put keyOf_str x.Name (.t (.int .i64 ((n + 1 : Nat) : Int)))
    have hl2 : lookR false (.t (.int .i64 0)) (findM (.t (.str x.Name)) (putM (.t (.str x.Name)) (.t (.int .i64 ((n + 1 : Nat) : Int))) c es)) = .t (.int .i64 ((n + 1 : Nat) : Int)) := (hf'.look _ x.Name).trans (by simp [updF])
    have hko2 : keysOk (.one .str) (putM (.t (.str x.Name)) (.t (.int .i64 ((n + 1 : Nat) : Int))) c es) = true := hf'.keys (fun _ => rfl)
    have morn := i64_succ (show n < 4611686018427387904 by omega)
    have hcn : ∀ p, cntN (fs.take (k + 1)) p = cntN (fs.take k) p + (if (x.Name == p) = true then 1 else 0) := fun p => cntN_step hx p
    have hvals : ∀ p, (updF f x.Name (.t (.int .i64 ((n + 1 : Nat) : Int))) p).getD (.t (.int .i64 0)) = cntV (cntN (fs.take (k + 1)) p) := fun p => by
      rw [hcn]
      by_cases hp : p = x.Name
      · subst hp; simp only [updF, if_true, Option.getD_some, ← hn, beq_self_eq_true]; rfl
      · have : (x.Name == p) = false := by simpa using fun e : x.Name = p => hp e.symm
        rw [this]
        simp only [updF, hp, if_false]
        exact hfv p
    have hmlt := hlt0.put c (k := .t (.str x.Name)) (x := .t (.int .i64 ((n + 1 : Nat) : Int))) rfl rfl
    have hn1 : decide ((((n + 1 : Nat) : Nat) : Int) > 1) = !(n == 0) := by
      cases n <;> simp
      omega
    have hlast : fieldP (hasW l) fs (x, k) = (fieldG (hasW l x.To) x && !decide ((((n + 1 : Nat) : Nat) : Int) > 1)) := by
      simp only [fieldP, ← hn, hn1, Bool.not_not]
    have nxt : fieldP (hasW l) fs (x, k) = true → MB.I (hasW l) fs ⟨k + 1, clkM (kStr x.Name) c es, putM (kStr x.Name) (.t (.int .i64 ((n + 1 : Nat) : Int))) c es⟩ := fun h => ⟨by simp only; omega, all_step (zip_at hx) hall h, ⟨_, hf', hvals⟩, hmlt⟩
    have hso := impl_sortOf x
    simp only [GateField.vs] at hso
    have hfi := impl_GateFits x hxo x.Default hxo.Default
    simp only [GateField.vs] at hfi
    have hh : True := trivial
    rcases kinds x with h | h | h | h | ⟨h1, h2, h3, h4⟩
    · have hsv : sortV x = .iface 90 (.agg x.vs) := by simp [sortV, h]
      have hsb : sortB x = true := by simp [sortB, h]
      have hkd : kindG (hasW l x.To) x = (clean1 x && sound1 x) := by simp [kindG, h]
      clear h
      simp -implicitDefEqProofs only [hko, hl1, morn, hl2, hko2, hx, GateField.ts, nat_nn, Nat.zero_le, List.getElem?_map, Option.map_some, List.length_map, more, S0, S1, S2, S3, S4, S5, S6, S7, S8, S9, S10, S11, S12, S13, S14, S15, S16, S17, opv, opvs, eget, env0, setD, lenStr, lenSl, isNilP, isNilS, putAt, if_true, if_false, reduceCtorEq, Nat.reduceLeDiff, Nat.reduceEqDiff, Nat.reduceSub, Nat.reduceMul, Nat.reduceAdd]
      repeat' (first
        | ((with_reducible refine cond_known (fun h => ?_) (fun h => ?_)) <;> (replace hh := And.intro h hh; clear h; simp -implicitDefEqProofs only [hh, cond_t, cond_f, hko, hl1, morn, hl2, hko2, hx, GateField.ts, nat_nn, Nat.zero_le, List.getElem?_map, Option.map_some, List.length_map, more, m_clean1, m_sound1, S0, S1, S2, S3, S4, S5, S6, S7, S8, S9, S10, S11, S12, S13, S14, S15, S16, S17, opv, opvs, eget, env0, setD, lenStr, lenSl, isNilP, isNilS, putAt, if_true, if_false, reduceCtorEq, Nat.reduceLeDiff, Nat.reduceEqDiff, Nat.reduceSub, Nat.reduceMul, Nat.reduceAdd]))
        | ((with_reducible refine call_pure (impl_isName x.Name hxo.Name _) ?_); (try rw [hsv, hsb]); simp -implicitDefEqProofs only [hh, cond_t, cond_f, hko, hl1, morn, hl2, hko2, hx, GateField.ts, nat_nn, Nat.zero_le, List.getElem?_map, Option.map_some, List.length_map, more, m_clean1, m_sound1, S0, S1, S2, S3, S4, S5, S6, S7, S8, S9, S10, S11, S12, S13, S14, S15, S16, S17, opv, opvs, eget, env0, setD, lenStr, lenSl, isNilP, isNilS, putAt, if_true, if_false, reduceCtorEq, Nat.reduceLeDiff, Nat.reduceEqDiff, Nat.reduceSub, Nat.reduceMul, Nat.reduceAdd])
        | ((with_reducible refine call_pure (hso _) ?_); (try rw [hsv, hsb]); simp -implicitDefEqProofs only [hh, cond_t, cond_f, hko, hl1, morn, hl2, hko2, hx, GateField.ts, nat_nn, Nat.zero_le, List.getElem?_map, Option.map_some, List.length_map, more, m_clean1, m_sound1, S0, S1, S2, S3, S4, S5, S6, S7, S8, S9, S10, S11, S12, S13, S14, S15, S16, S17, opv, opvs, eget, env0, setD, lenStr, lenSl, isNilP, isNilS, putAt, if_true, if_false, reduceCtorEq, Nat.reduceLeDiff, Nat.reduceEqDiff, Nat.reduceSub, Nat.reduceMul, Nat.reduceAdd])
        | ((with_reducible refine call_pure (hfi _) ?_); (try rw [hsv, hsb]); simp -implicitDefEqProofs only [hh, cond_t, cond_f, hko, hl1, morn, hl2, hko2, hx, GateField.ts, nat_nn, Nat.zero_le, List.getElem?_map, Option.map_some, List.length_map, more, m_clean1, m_sound1, S0, S1, S2, S3, S4, S5, S6, S7, S8, S9, S10, S11, S12, S13, S14, S15, S16, S17, opv, opvs, eget, env0, setD, lenStr, lenSl, isNilP, isNilS, putAt, if_true, if_false, reduceCtorEq, Nat.reduceLeDiff, Nat.reduceEqDiff, Nat.reduceSub, Nat.reduceMul, Nat.reduceAdd])
        | ((with_reducible refine meth_pure (_impl_numberField__clean x hxo _) ?_); (try simp -implicitDefEqProofs only [hh, cond_t, cond_f, hko, hl1, morn, hl2, hko2, hx, GateField.ts, nat_nn, Nat.zero_le, List.getElem?_map, Option.map_some, List.length_map, more, m_clean1, m_sound1, S0, S1, S2, S3, S4, S5, S6, S7, S8, S9, S10, S11, S12, S13, S14, S15, S16, S17, opv, opvs, eget, env0, setD, lenStr, lenSl, isNilP, isNilS, putAt, if_true, if_false, reduceCtorEq, Nat.reduceLeDiff, Nat.reduceEqDiff, Nat.reduceSub, Nat.reduceMul, Nat.reduceAdd]))
        | ((with_reducible refine meth_pure (_impl_numberField__sound x hxo (.t (tStrs l)) _) ?_); (try simp -implicitDefEqProofs only [hh, cond_t, cond_f, hko, hl1, morn, hl2, hko2, hx, GateField.ts, nat_nn, Nat.zero_le, List.getElem?_map, Option.map_some, List.length_map, more, m_clean1, m_sound1, S0, S1, S2, S3, S4, S5, S6, S7, S8, S9, S10, S11, S12, S13, S14, S15, S16, S17, opv, opvs, eget, env0, setD, lenStr, lenSl, isNilP, isNilS, putAt, if_true, if_false, reduceCtorEq, Nat.reduceLeDiff, Nat.reduceEqDiff, Nat.reduceSub, Nat.reduceMul, Nat.reduceAdd]))
        | ((with_reducible refine fin ?_ ?_); rotate_left; exact rfl; refine tb ?_; (try simp only [Known] at hh); rw [hres, all_not (zip_at hx) (p := fieldP (hasW l) fs) (by rw [hlast]; grind [fieldG])])
        | (refine lk_s ⟨k + 1, clkM (kStr x.Name) c es, putM (kStr x.Name) (.t (.int .i64 ((n + 1 : Nat) : Int))) c es⟩ (τ := [.box x.vs]) (by simp) (by omega) (by simp [kStr, GateField.vs]) (by simp only; omega) (nxt ?_) (lt_stbm hmlt _ hσ rfl) (by simp [ltE, keep, eget, V.lt]) rfl; (try simp only [Known] at hh); rw [hlast]; grind [fieldG]))
    · have hsv : sortV x = .iface 92 (.agg x.vs) := by simp [sortV, h]
      have hsb : sortB x = true := by simp [sortB, h]
      have hkd : kindG (hasW l x.To) x = (clean2 x && sound2 x) := by simp [kindG, h]
      clear h
      simp -implicitDefEqProofs only [hko, hl1, morn, hl2, hko2, hx, GateField.ts, nat_nn, Nat.zero_le, List.getElem?_map, Option.map_some, List.length_map, more, S0, S1, S2, S3, S4, S5, S6, S7, S8, S9, S10, S11, S12, S13, S14, S15, S16, S17, opv, opvs, eget, env0, setD, lenStr, lenSl, isNilP, isNilS, putAt, if_true, if_false, reduceCtorEq, Nat.reduceLeDiff, Nat.reduceEqDiff, Nat.reduceSub, Nat.reduceMul, Nat.reduceAdd]
      repeat' (first
        | ((with_reducible refine cond_known (fun h => ?_) (fun h => ?_)) <;> (replace hh := And.intro h hh; clear h; simp -implicitDefEqProofs only [hh, cond_t, cond_f, hko, hl1, morn, hl2, hko2, hx, GateField.ts, nat_nn, Nat.zero_le, List.getElem?_map, Option.map_some, List.length_map, more, m_clean2, m_sound2, S0, S1, S2, S3, S4, S5, S6, S7, S8, S9, S10, S11, S12, S13, S14, S15, S16, S17, opv, opvs, eget, env0, setD, lenStr, lenSl, isNilP, isNilS, putAt, if_true, if_false, reduceCtorEq, Nat.reduceLeDiff, Nat.reduceEqDiff, Nat.reduceSub, Nat.reduceMul, Nat.reduceAdd]))
        | ((with_reducible refine call_pure (impl_isName x.Name hxo.Name _) ?_); (try rw [hsv, hsb]); simp -implicitDefEqProofs only [hh, cond_t, cond_f, hko, hl1, morn, hl2, hko2, hx, GateField.ts, nat_nn, Nat.zero_le, List.getElem?_map, Option.map_some, List.length_map, more, m_clean2, m_sound2, S0, S1, S2, S3, S4, S5, S6, S7, S8, S9, S10, S11, S12, S13, S14, S15, S16, S17, opv, opvs, eget, env0, setD, lenStr, lenSl, isNilP, isNilS, putAt, if_true, if_false, reduceCtorEq, Nat.reduceLeDiff, Nat.reduceEqDiff, Nat.reduceSub, Nat.reduceMul, Nat.reduceAdd])
        | ((with_reducible refine call_pure (hso _) ?_); (try rw [hsv, hsb]); simp -implicitDefEqProofs only [hh, cond_t, cond_f, hko, hl1, morn, hl2, hko2, hx, GateField.ts, nat_nn, Nat.zero_le, List.getElem?_map, Option.map_some, List.length_map, more, m_clean2, m_sound2, S0, S1, S2, S3, S4, S5, S6, S7, S8, S9, S10, S11, S12, S13, S14, S15, S16, S17, opv, opvs, eget, env0, setD, lenStr, lenSl, isNilP, isNilS, putAt, if_true, if_false, reduceCtorEq, Nat.reduceLeDiff, Nat.reduceEqDiff, Nat.reduceSub, Nat.reduceMul, Nat.reduceAdd])
        | ((with_reducible refine call_pure (hfi _) ?_); (try rw [hsv, hsb]); simp -implicitDefEqProofs only [hh, cond_t, cond_f, hko, hl1, morn, hl2, hko2, hx, GateField.ts, nat_nn, Nat.zero_le, List.getElem?_map, Option.map_some, List.length_map, more, m_clean2, m_sound2, S0, S1, S2, S3, S4, S5, S6, S7, S8, S9, S10, S11, S12, S13, S14, S15, S16, S17, opv, opvs, eget, env0, setD, lenStr, lenSl, isNilP, isNilS, putAt, if_true, if_false, reduceCtorEq, Nat.reduceLeDiff, Nat.reduceEqDiff, Nat.reduceSub, Nat.reduceMul, Nat.reduceAdd])
        | ((with_reducible refine meth_pure (_impl_wordField__clean x hxo _) ?_); (try simp -implicitDefEqProofs only [hh, cond_t, cond_f, hko, hl1, morn, hl2, hko2, hx, GateField.ts, nat_nn, Nat.zero_le, List.getElem?_map, Option.map_some, List.length_map, more, m_clean2, m_sound2, S0, S1, S2, S3, S4, S5, S6, S7, S8, S9, S10, S11, S12, S13, S14, S15, S16, S17, opv, opvs, eget, env0, setD, lenStr, lenSl, isNilP, isNilS, putAt, if_true, if_false, reduceCtorEq, Nat.reduceLeDiff, Nat.reduceEqDiff, Nat.reduceSub, Nat.reduceMul, Nat.reduceAdd]))
        | ((with_reducible refine meth_pure (_impl_wordField__sound x hxo (.t (tStrs l)) _) ?_); (try simp -implicitDefEqProofs only [hh, cond_t, cond_f, hko, hl1, morn, hl2, hko2, hx, GateField.ts, nat_nn, Nat.zero_le, List.getElem?_map, Option.map_some, List.length_map, more, m_clean2, m_sound2, S0, S1, S2, S3, S4, S5, S6, S7, S8, S9, S10, S11, S12, S13, S14, S15, S16, S17, opv, opvs, eget, env0, setD, lenStr, lenSl, isNilP, isNilS, putAt, if_true, if_false, reduceCtorEq, Nat.reduceLeDiff, Nat.reduceEqDiff, Nat.reduceSub, Nat.reduceMul, Nat.reduceAdd]))
        | ((with_reducible refine fin ?_ ?_); rotate_left; exact rfl; refine tb ?_; (try simp only [Known] at hh); rw [hres, all_not (zip_at hx) (p := fieldP (hasW l) fs) (by rw [hlast]; grind [fieldG])])
        | (refine lk_s ⟨k + 1, clkM (kStr x.Name) c es, putM (kStr x.Name) (.t (.int .i64 ((n + 1 : Nat) : Int))) c es⟩ (τ := [.box x.vs]) (by simp) (by omega) (by simp [kStr, GateField.vs]) (by simp only; omega) (nxt ?_) (lt_stbm hmlt _ hσ rfl) (by simp [ltE, keep, eget, V.lt]) rfl; (try simp only [Known] at hh); rw [hlast]; grind [fieldG]))
    · have hsv : sortV x = .iface 93 (.agg x.vs) := by simp [sortV, h]
      have hsb : sortB x = true := by simp [sortB, h]
      have hkd : kindG (hasW l x.To) x = (clean3 x && sound3 x) := by simp [kindG, h]
      clear h
      simp -implicitDefEqProofs only [hko, hl1, morn, hl2, hko2, hx, GateField.ts, nat_nn, Nat.zero_le, List.getElem?_map, Option.map_some, List.length_map, more, S0, S1, S2, S3, S4, S5, S6, S7, S8, S9, S10, S11, S12, S13, S14, S15, S16, S17, opv, opvs, eget, env0, setD, lenStr, lenSl, isNilP, isNilS, putAt, if_true, if_false, reduceCtorEq, Nat.reduceLeDiff, Nat.reduceEqDiff, Nat.reduceSub, Nat.reduceMul, Nat.reduceAdd]
      repeat' (first
        | ((with_reducible refine cond_known (fun h => ?_) (fun h => ?_)) <;> (replace hh := And.intro h hh; clear h; simp -implicitDefEqProofs only [hh, cond_t, cond_f, hko, hl1, morn, hl2, hko2, hx, GateField.ts, nat_nn, Nat.zero_le, List.getElem?_map, Option.map_some, List.length_map, more, m_clean3, m_sound3, S0, S1, S2, S3, S4, S5, S6, S7, S8, S9, S10, S11, S12, S13, S14, S15, S16, S17, opv, opvs, eget, env0, setD, lenStr, lenSl, isNilP, isNilS, putAt, if_true, if_false, reduceCtorEq, Nat.reduceLeDiff, Nat.reduceEqDiff, Nat.reduceSub, Nat.reduceMul, Nat.reduceAdd]))
        | ((with_reducible refine call_pure (impl_isName x.Name hxo.Name _) ?_); (try rw [hsv, hsb]); simp -implicitDefEqProofs only [hh, cond_t, cond_f, hko, hl1, morn, hl2, hko2, hx, GateField.ts, nat_nn, Nat.zero_le, List.getElem?_map, Option.map_some, List.length_map, more, m_clean3, m_sound3, S0, S1, S2, S3, S4, S5, S6, S7, S8, S9, S10, S11, S12, S13, S14, S15, S16, S17, opv, opvs, eget, env0, setD, lenStr, lenSl, isNilP, isNilS, putAt, if_true, if_false, reduceCtorEq, Nat.reduceLeDiff, Nat.reduceEqDiff, Nat.reduceSub, Nat.reduceMul, Nat.reduceAdd])
        | ((with_reducible refine call_pure (hso _) ?_); (try rw [hsv, hsb]); simp -implicitDefEqProofs only [hh, cond_t, cond_f, hko, hl1, morn, hl2, hko2, hx, GateField.ts, nat_nn, Nat.zero_le, List.getElem?_map, Option.map_some, List.length_map, more, m_clean3, m_sound3, S0, S1, S2, S3, S4, S5, S6, S7, S8, S9, S10, S11, S12, S13, S14, S15, S16, S17, opv, opvs, eget, env0, setD, lenStr, lenSl, isNilP, isNilS, putAt, if_true, if_false, reduceCtorEq, Nat.reduceLeDiff, Nat.reduceEqDiff, Nat.reduceSub, Nat.reduceMul, Nat.reduceAdd])
        | ((with_reducible refine call_pure (hfi _) ?_); (try rw [hsv, hsb]); simp -implicitDefEqProofs only [hh, cond_t, cond_f, hko, hl1, morn, hl2, hko2, hx, GateField.ts, nat_nn, Nat.zero_le, List.getElem?_map, Option.map_some, List.length_map, more, m_clean3, m_sound3, S0, S1, S2, S3, S4, S5, S6, S7, S8, S9, S10, S11, S12, S13, S14, S15, S16, S17, opv, opvs, eget, env0, setD, lenStr, lenSl, isNilP, isNilS, putAt, if_true, if_false, reduceCtorEq, Nat.reduceLeDiff, Nat.reduceEqDiff, Nat.reduceSub, Nat.reduceMul, Nat.reduceAdd])
        | ((with_reducible refine meth_pure (_impl_textField__clean x hxo _) ?_); (try simp -implicitDefEqProofs only [hh, cond_t, cond_f, hko, hl1, morn, hl2, hko2, hx, GateField.ts, nat_nn, Nat.zero_le, List.getElem?_map, Option.map_some, List.length_map, more, m_clean3, m_sound3, S0, S1, S2, S3, S4, S5, S6, S7, S8, S9, S10, S11, S12, S13, S14, S15, S16, S17, opv, opvs, eget, env0, setD, lenStr, lenSl, isNilP, isNilS, putAt, if_true, if_false, reduceCtorEq, Nat.reduceLeDiff, Nat.reduceEqDiff, Nat.reduceSub, Nat.reduceMul, Nat.reduceAdd]))
        | ((with_reducible refine meth_pure (_impl_textField__sound x hxo (.t (tStrs l)) _) ?_); (try simp -implicitDefEqProofs only [hh, cond_t, cond_f, hko, hl1, morn, hl2, hko2, hx, GateField.ts, nat_nn, Nat.zero_le, List.getElem?_map, Option.map_some, List.length_map, more, m_clean3, m_sound3, S0, S1, S2, S3, S4, S5, S6, S7, S8, S9, S10, S11, S12, S13, S14, S15, S16, S17, opv, opvs, eget, env0, setD, lenStr, lenSl, isNilP, isNilS, putAt, if_true, if_false, reduceCtorEq, Nat.reduceLeDiff, Nat.reduceEqDiff, Nat.reduceSub, Nat.reduceMul, Nat.reduceAdd]))
        | ((with_reducible refine fin ?_ ?_); rotate_left; exact rfl; refine tb ?_; (try simp only [Known] at hh); rw [hres, all_not (zip_at hx) (p := fieldP (hasW l) fs) (by rw [hlast]; grind [fieldG])])
        | (refine lk_s ⟨k + 1, clkM (kStr x.Name) c es, putM (kStr x.Name) (.t (.int .i64 ((n + 1 : Nat) : Int))) c es⟩ (τ := [.box x.vs]) (by simp) (by omega) (by simp [kStr, GateField.vs]) (by simp only; omega) (nxt ?_) (lt_stbm hmlt _ hσ rfl) (by simp [ltE, keep, eget, V.lt]) rfl; (try simp only [Known] at hh); rw [hlast]; grind [fieldG]))
    · have hsv : sortV x = .iface 94 (.agg x.vs) := by simp [sortV, h]
      have hsb : sortB x = true := by simp [sortB, h]
      have hkd : kindG (hasW l x.To) x = (clean4 x && sound4 (hasW l x.To) x) := by simp [kindG, h]
      clear h
      simp -implicitDefEqProofs only [hko, hl1, morn, hl2, hko2, hx, GateField.ts, nat_nn, Nat.zero_le, List.getElem?_map, Option.map_some, List.length_map, more, S0, S1, S2, S3, S4, S5, S6, S7, S8, S9, S10, S11, S12, S13, S14, S15, S16, S17, opv, opvs, eget, env0, setD, lenStr, lenSl, isNilP, isNilS, putAt, if_true, if_false, reduceCtorEq, Nat.reduceLeDiff, Nat.reduceEqDiff, Nat.reduceSub, Nat.reduceMul, Nat.reduceAdd]
      repeat' (first
        | ((with_reducible refine cond_known (fun h => ?_) (fun h => ?_)) <;> (replace hh := And.intro h hh; clear h; simp -implicitDefEqProofs only [hh, cond_t, cond_f, hko, hl1, morn, hl2, hko2, hx, GateField.ts, nat_nn, Nat.zero_le, List.getElem?_map, Option.map_some, List.length_map, more, m_clean4, m_sound4, S0, S1, S2, S3, S4, S5, S6, S7, S8, S9, S10, S11, S12, S13, S14, S15, S16, S17, opv, opvs, eget, env0, setD, lenStr, lenSl, isNilP, isNilS, putAt, if_true, if_false, reduceCtorEq, Nat.reduceLeDiff, Nat.reduceEqDiff, Nat.reduceSub, Nat.reduceMul, Nat.reduceAdd]))
        | ((with_reducible refine call_pure (impl_isName x.Name hxo.Name _) ?_); (try rw [hsv, hsb]); simp -implicitDefEqProofs only [hh, cond_t, cond_f, hko, hl1, morn, hl2, hko2, hx, GateField.ts, nat_nn, Nat.zero_le, List.getElem?_map, Option.map_some, List.length_map, more, m_clean4, m_sound4, S0, S1, S2, S3, S4, S5, S6, S7, S8, S9, S10, S11, S12, S13, S14, S15, S16, S17, opv, opvs, eget, env0, setD, lenStr, lenSl, isNilP, isNilS, putAt, if_true, if_false, reduceCtorEq, Nat.reduceLeDiff, Nat.reduceEqDiff, Nat.reduceSub, Nat.reduceMul, Nat.reduceAdd])
        | ((with_reducible refine call_pure (hso _) ?_); (try rw [hsv, hsb]); simp -implicitDefEqProofs only [hh, cond_t, cond_f, hko, hl1, morn, hl2, hko2, hx, GateField.ts, nat_nn, Nat.zero_le, List.getElem?_map, Option.map_some, List.length_map, more, m_clean4, m_sound4, S0, S1, S2, S3, S4, S5, S6, S7, S8, S9, S10, S11, S12, S13, S14, S15, S16, S17, opv, opvs, eget, env0, setD, lenStr, lenSl, isNilP, isNilS, putAt, if_true, if_false, reduceCtorEq, Nat.reduceLeDiff, Nat.reduceEqDiff, Nat.reduceSub, Nat.reduceMul, Nat.reduceAdd])
        | ((with_reducible refine call_pure (hfi _) ?_); (try rw [hsv, hsb]); simp -implicitDefEqProofs only [hh, cond_t, cond_f, hko, hl1, morn, hl2, hko2, hx, GateField.ts, nat_nn, Nat.zero_le, List.getElem?_map, Option.map_some, List.length_map, more, m_clean4, m_sound4, S0, S1, S2, S3, S4, S5, S6, S7, S8, S9, S10, S11, S12, S13, S14, S15, S16, S17, opv, opvs, eget, env0, setD, lenStr, lenSl, isNilP, isNilS, putAt, if_true, if_false, reduceCtorEq, Nat.reduceLeDiff, Nat.reduceEqDiff, Nat.reduceSub, Nat.reduceMul, Nat.reduceAdd])
        | ((with_reducible refine meth_pure (_impl_linkField__clean x hxo _) ?_); (try simp -implicitDefEqProofs only [hh, cond_t, cond_f, hko, hl1, morn, hl2, hko2, hx, GateField.ts, nat_nn, Nat.zero_le, List.getElem?_map, Option.map_some, List.length_map, more, m_clean4, m_sound4, S0, S1, S2, S3, S4, S5, S6, S7, S8, S9, S10, S11, S12, S13, S14, S15, S16, S17, opv, opvs, eget, env0, setD, lenStr, lenSl, isNilP, isNilS, putAt, if_true, if_false, reduceCtorEq, Nat.reduceLeDiff, Nat.reduceEqDiff, Nat.reduceSub, Nat.reduceMul, Nat.reduceAdd]))
        | ((with_reducible refine meth_pure (_impl_linkField__sound x hxo l hl _) ?_); (try simp -implicitDefEqProofs only [hh, cond_t, cond_f, hko, hl1, morn, hl2, hko2, hx, GateField.ts, nat_nn, Nat.zero_le, List.getElem?_map, Option.map_some, List.length_map, more, m_clean4, m_sound4, S0, S1, S2, S3, S4, S5, S6, S7, S8, S9, S10, S11, S12, S13, S14, S15, S16, S17, opv, opvs, eget, env0, setD, lenStr, lenSl, isNilP, isNilS, putAt, if_true, if_false, reduceCtorEq, Nat.reduceLeDiff, Nat.reduceEqDiff, Nat.reduceSub, Nat.reduceMul, Nat.reduceAdd]))
        | ((with_reducible refine fin ?_ ?_); rotate_left; exact rfl; refine tb ?_; (try simp only [Known] at hh); rw [hres, all_not (zip_at hx) (p := fieldP (hasW l) fs) (by rw [hlast]; grind [fieldG])])
        | (refine lk_s ⟨k + 1, clkM (kStr x.Name) c es, putM (kStr x.Name) (.t (.int .i64 ((n + 1 : Nat) : Int))) c es⟩ (τ := [.box x.vs]) (by simp) (by omega) (by simp [kStr, GateField.vs]) (by simp only; omega) (nxt ?_) (lt_stbm hmlt _ hσ rfl) (by simp [ltE, keep, eget, V.lt]) rfl; (try simp only [Known] at hh); rw [hlast]; grind [fieldG]))
    · have hsv : sortV x = .nili := by simp only [beq_eq_false_iff_ne] at h1 h2 h3 h4; simp [sortV, h1, h2, h3, h4]
      have hsb : sortB x = false := by simp [sortB, h1, h2, h3, h4]
      have hkd : kindG (hasW l x.To) x = false := by simp only [beq_eq_false_iff_ne] at h1 h2 h3 h4; simp [kindG, h1, h2, h3, h4]
      clear h1 h2 h3 h4
      simp -implicitDefEqProofs only [hko, hl1, morn, hl2, hko2, hx, GateField.ts, nat_nn, Nat.zero_le, List.getElem?_map, Option.map_some, List.length_map, more, S0, S1, S2, S3, S4, S5, S6, S7, S8, S9, S10, S11, S12, S13, S14, S15, S16, S17, opv, opvs, eget, env0, setD, lenStr, lenSl, isNilP, isNilS, putAt, if_true, if_false, reduceCtorEq, Nat.reduceLeDiff, Nat.reduceEqDiff, Nat.reduceSub, Nat.reduceMul, Nat.reduceAdd]
      repeat' (first
        | ((with_reducible refine cond_known (fun h => ?_) (fun h => ?_)) <;> (replace hh := And.intro h hh; clear h; simp -implicitDefEqProofs only [hh, cond_t, cond_f, hko, hl1, morn, hl2, hko2, hx, GateField.ts, nat_nn, Nat.zero_le, List.getElem?_map, Option.map_some, List.length_map, more, S0, S1, S2, S3, S4, S5, S6, S7, S8, S9, S10, S11, S12, S13, S14, S15, S16, S17, opv, opvs, eget, env0, setD, lenStr, lenSl, isNilP, isNilS, putAt, if_true, if_false, reduceCtorEq, Nat.reduceLeDiff, Nat.reduceEqDiff, Nat.reduceSub, Nat.reduceMul, Nat.reduceAdd]))
        | ((with_reducible refine call_pure (impl_isName x.Name hxo.Name _) ?_); (try rw [hsv, hsb]); simp -implicitDefEqProofs only [hh, cond_t, cond_f, hko, hl1, morn, hl2, hko2, hx, GateField.ts, nat_nn, Nat.zero_le, List.getElem?_map, Option.map_some, List.length_map, more, S0, S1, S2, S3, S4, S5, S6, S7, S8, S9, S10, S11, S12, S13, S14, S15, S16, S17, opv, opvs, eget, env0, setD, lenStr, lenSl, isNilP, isNilS, putAt, if_true, if_false, reduceCtorEq, Nat.reduceLeDiff, Nat.reduceEqDiff, Nat.reduceSub, Nat.reduceMul, Nat.reduceAdd])
        | ((with_reducible refine call_pure (hso _) ?_); (try rw [hsv, hsb]); simp -implicitDefEqProofs only [hh, cond_t, cond_f, hko, hl1, morn, hl2, hko2, hx, GateField.ts, nat_nn, Nat.zero_le, List.getElem?_map, Option.map_some, List.length_map, more, S0, S1, S2, S3, S4, S5, S6, S7, S8, S9, S10, S11, S12, S13, S14, S15, S16, S17, opv, opvs, eget, env0, setD, lenStr, lenSl, isNilP, isNilS, putAt, if_true, if_false, reduceCtorEq, Nat.reduceLeDiff, Nat.reduceEqDiff, Nat.reduceSub, Nat.reduceMul, Nat.reduceAdd])
        | ((with_reducible refine call_pure (hfi _) ?_); (try rw [hsv, hsb]); simp -implicitDefEqProofs only [hh, cond_t, cond_f, hko, hl1, morn, hl2, hko2, hx, GateField.ts, nat_nn, Nat.zero_le, List.getElem?_map, Option.map_some, List.length_map, more, S0, S1, S2, S3, S4, S5, S6, S7, S8, S9, S10, S11, S12, S13, S14, S15, S16, S17, opv, opvs, eget, env0, setD, lenStr, lenSl, isNilP, isNilS, putAt, if_true, if_false, reduceCtorEq, Nat.reduceLeDiff, Nat.reduceEqDiff, Nat.reduceSub, Nat.reduceMul, Nat.reduceAdd])
        | ((with_reducible refine fin ?_ ?_); rotate_left; exact rfl; refine tb ?_; (try simp only [Known] at hh); rw [hres, all_not (zip_at hx) (p := fieldP (hasW l) fs) (by rw [hlast]; grind [fieldG])])
        | (refine lk_s ⟨k + 1, clkM (kStr x.Name) c es, putM (kStr x.Name) (.t (.int .i64 ((n + 1 : Nat) : Int))) c es⟩ (τ := [.box x.vs]) (by simp) (by omega) (by simp [kStr, GateField.vs]) (by simp only; omega) (nxt ?_) (lt_stbm hmlt _ hσ rfl) (by simp [ltE, keep, eget, V.lt]) rfl; (try simp only [Known] at hh); rw [hlast]; grind [fieldG]))
  · have hkk := end_of h1 hk'
    rw [hkk] at hall
    simp -implicitDefEqProofs only [S0, S1, S2, S3, S4, S5, S6, S7, S8, S9, S10, S11, S12, S13, S14, S15, S16, S17, opv, opvs, eget, env0, setD, lenStr, lenSl, isNilP, isNilS, putAt, if_true, if_false, reduceCtorEq, Nat.reduceLeDiff, Nat.reduceEqDiff, Nat.reduceSub, Nat.reduceMul, Nat.reduceAdd]
    first | exact fin (tb (by rw [hres, ← hall, List.take_of_length_le (by simp)])) rfl | exact fin0 (tb (by rw [hres, ← hall, List.take_of_length_le (by simp)]))

end Go.Proofs.Ytcjchimenfadkaa.W

end


section
open Go Go.Ab
set_option maxHeartbeats 2000000
namespace Go.Proofs.Ytcjchimenfadkaa.W
mutual
def posT : T → Bool
  | .lst sz rows => decide (0 < sz) && posR rows
  | _ => true
def posR : List (List T) → Bool
  | [] => true
  | r :: rows => posL r && posR rows
def posL : List T → Bool
  | [] => true
  | t :: ts => posT t && posL ts
end
mutual
/-- A frozen tree shows itself. -/
theorem sees_posT (σ : Store) : ∀ t : T, posT t = true → Sees σ t (.t t)
  | .int k n, _ => by simp only [Sees]
  | .bool b, _ => by simp only [Sees]
  | .str s, _ => by simp only [Sees]
  | .lst sz rows, h => by
    simp only [posT, Bool.and_eq_true, decide_eq_true_eq] at h
    simp only [Sees]
    exact ⟨_, by simp only [rowsOf, if_true], sees_posR σ rows h.2, h.1⟩
theorem sees_posR (σ : Store) : ∀ rows : List (List T), posR rows = true → SeesRows σ rows (rows.map fun r => r.map .t)
  | [], _ => by simp only [SeesRows, List.map_nil]
  | r :: rows, h => by
    simp only [posR, Bool.and_eq_true] at h
    simp only [SeesRows, List.map_cons]
    exact ⟨_, _, rfl, sees_posL σ r h.1, sees_posR σ rows h.2⟩
theorem sees_posL (σ : Store) : ∀ ts : List T, posL ts = true → SeesL σ ts (ts.map .t)
  | [], _ => by simp only [SeesL, List.map_nil]
  | t :: ts, h => by
    simp only [posL, Bool.and_eq_true] at h
    simp only [SeesL, List.map_cons]
    exact ⟨_, _, rfl, sees_posT σ t h.1, sees_posL σ ts h.2⟩
end
theorem posR_map {α : Type} (f : α → List T) (h : ∀ x, posL (f x) = true) : ∀ l : List α, posR (l.map f) = true
  | [] => rfl
  | x :: l => by simp only [List.map_cons, posR, h x, posR_map f h l, Bool.and_self]
theorem pos_strs (l : List (List UInt8)) : posR (l.map tStr) = true := posR_map _ (fun _ => rfl) l
theorem pos_field (f : GateField) : posL f.ts = true := by simp [GateField.ts, posL, posT, pos_strs]
theorem pos_shape (s : GateShape) : posL s.ts = true := by simp [GateShape.ts, posL, posT, posR_map _ pos_field]
structure Gk where
  k : Nat
  v : V
  s : Store
  is : List Nat
structure Gs where
  k : Nat
  s : Store
theorem kindsOf_small {l : List GateShape} (hl : GateShape.OkS l) : StrsOk (kindsOf l) :=
  ⟨by rw [kindsOf, List.length_map]; exact hl.1, fun w hw => by
    simp only [kindsOf, List.mem_map] at hw
    obtain ⟨x, hx, rfl⟩ := hw
    exact (hl.2 x hx).Kind⟩
theorem kinds_take {l : List GateShape} {k : Nat} {x : GateShape} (h : l[k]? = some x) : ((kindsOf (l.take (k + 1))).map tStr) = ((kindsOf (l.take k)).map tStr) ++ [[.str x.Kind]] := by
  rw [take_of h]; simp [kindsOf, tStr]

def c_spec_GateShapesOk : C := (.seq (.ops [⟨(some 2), none, (.mv (.c (.t (.bool false))))⟩]) (.seq (.seq (.ops [⟨(some 7), none, (.mv (.t 0))⟩, ⟨(some 8), none, (.len false (.t 7))⟩, ⟨(some 9), none, (.bin .gtr (.t 8) (.c (.t (.int .i64 6))))⟩]) (.cond (.t 9) (.seq (.ops [⟨(some 2), none, (.mv (.c (.t (.bool false))))⟩]) .ret) .skip)) (.seq (.seq (.ops [⟨(some 3), none, (.mv (.c (.t (.int .i64 0))))⟩]) (.block 0 (.loop (.seq (.seq (.ops [⟨(some 10), none, (.mv (.t 3))⟩, ⟨(some 11), none, (.mv (.t 0))⟩, ⟨(some 12), none, (.len false (.t 11))⟩, ⟨(some 13), none, (.bin .lss (.t 10) (.t 12))⟩]) (.cond (.t 13) .skip (.exit 0))) (.seq (.block 1 (.seq (.ops [⟨(some 16), none, (.mv (.t 0))⟩, ⟨(some 17), none, (.mv (.t 3))⟩, ⟨(some 18), none, (.indexAddr 2 (.t 16) (.t 17))⟩, ⟨(some 19), none, (.load (some 2) (.t 18))⟩, ⟨(some 4), none, (.new [(.t (.str [])), .nils])⟩, ⟨none, none, (.store 2 (.t 4) (.t 19))⟩]) (.seq (.seq (.drawn [(.mk 0 false ⟨(some 20), none, (.fieldAddr 0 (.t 4))⟩ []), (.mk 1 false ⟨(some 21), none, (.load none (.t 20))⟩ []), (.mk 2 false ⟨(some 22), none, (.call (.c (.fn (.func 26) [])) [(.t 21)])⟩ []), (.mk 3 false ⟨(some 23), none, (.un .not (.t 22))⟩ []), (.mk 4 false ⟨(some 24), none, (.mv (.t 23))⟩ []), (.mk 5 false ⟨(some 25), (some ⟨24, false⟩), (.mv (.t 3))⟩ []), (.mk 6 false ⟨(some 26), (some ⟨24, false⟩), (.bin .gtr (.t 25) (.c (.t (.int .i64 0))))⟩ []), (.mk 7 false ⟨(some 27), (some ⟨24, false⟩), (.mv (.t 26))⟩ []), (.mk 8 false ⟨(some 28), (some ⟨27, true⟩), (.mv (.t 0))⟩ []), (.mk 9 false ⟨(some 29), (some ⟨27, true⟩), (.mv (.t 3))⟩ []), (.mk 10 false ⟨(some 30), (some ⟨27, true⟩), (.bin .sub (.t 29) (.c (.t (.int .i64 1))))⟩ []), (.mk 11 false ⟨(some 31), (some ⟨27, true⟩), (.indexAddr 2 (.t 28) (.t 30))⟩ []), (.mk 12 false ⟨(some 32), (some ⟨27, true⟩), (.fieldAddr 0 (.t 31))⟩ []), (.mk 13 false ⟨(some 33), (some ⟨27, true⟩), (.load none (.t 32))⟩ []), (.mk 14 false ⟨(some 34), (some ⟨27, true⟩), (.fieldAddr 0 (.t 4))⟩ []), (.mk 15 false ⟨(some 35), (some ⟨27, true⟩), (.load none (.t 34))⟩ []), (.mk 16 false ⟨(some 36), (some ⟨27, true⟩), (.bin .geq (.t 33) (.t 35))⟩ []), (.mk 17 false ⟨(some 37), (some ⟨24, false⟩), (.pick (.t 27) (.t 36) (.c (.t (.bool false))))⟩ []), (.mk 18 false ⟨(some 38), none, (.pick (.t 24) (.c (.t (.bool true))) (.t 37))⟩ []), (.mk 19 false ⟨(some 39), none, (.mv (.t 38))⟩ []), (.mk 20 false ⟨(some 40), (some ⟨39, false⟩), (.fieldAddr 1 (.t 4))⟩ []), (.mk 21 false ⟨(some 41), (some ⟨39, false⟩), (.load none (.t 40))⟩ []), (.mk 22 false ⟨(some 42), (some ⟨39, false⟩), (.len false (.t 41))⟩ []), (.mk 23 false ⟨(some 43), (some ⟨39, false⟩), (.bin .gtr (.t 42) (.c (.t (.int .i64 6))))⟩ []), (.mk 24 false ⟨(some 44), none, (.pick (.t 39) (.c (.t (.bool true))) (.t 43))⟩ [])]) (.cond (.t 44) (.seq (.ops [⟨(some 2), none, (.mv (.c (.t (.bool false))))⟩]) .ret) .skip)) (.seq (.ops [⟨(some 5), none, (.mv (.c (.t (.int .i64 0))))⟩]) (.block 2 (.loop (.seq (.seq (.ops [⟨(some 45), none, (.mv (.t 5))⟩, ⟨(some 46), none, (.fieldAddr 1 (.t 4))⟩, ⟨(some 47), none, (.load none (.t 46))⟩, ⟨(some 48), none, (.len false (.t 47))⟩, ⟨(some 49), none, (.bin .lss (.t 45) (.t 48))⟩]) (.cond (.t 49) .skip (.exit 2))) (.seq (.block 3 (.seq (.seq (.ops [⟨(some 52), none, (.mv (.t 0))⟩, ⟨(some 53), none, (.fieldAddr 1 (.t 4))⟩, ⟨(some 54), none, (.load none (.t 53))⟩, ⟨(some 55), none, (.mv (.t 5))⟩, ⟨(some 56), none, (.indexAddr 11 (.t 54) (.t 55))⟩, ⟨(some 57), none, (.load (some 11) (.t 56))⟩, ⟨(some 58), none, (.call (.c (.fn (.func 27) [])) [(.t 52), (.t 57)])⟩, ⟨(some 59), none, (.un .not (.t 58))⟩]) (.cond (.t 59) (.seq (.ops [⟨(some 2), none, (.mv (.c (.t (.bool false))))⟩]) .ret) .skip)) (.seq (.ops [⟨(some 6), none, (.mv (.c (.t (.int .i64 0))))⟩]) (.block 4 (.loop (.seq (.seq (.ops [⟨(some 60), none, (.mv (.t 6))⟩, ⟨(some 61), none, (.mv (.t 5))⟩, ⟨(some 62), none, (.bin .lss (.t 60) (.t 61))⟩]) (.cond (.t 62) .skip (.exit 4))) (.seq (.block 5 (.seq (.drawn [(.mk 0 false ⟨(some 65), none, (.fieldAddr 1 (.t 4))⟩ []), (.mk 1 false ⟨(some 66), none, (.load none (.t 65))⟩ []), (.mk 2 false ⟨(some 67), none, (.mv (.t 6))⟩ []), (.mk 3 false ⟨(some 68), none, (.indexAddr 11 (.t 66) (.t 67))⟩ []), (.mk 4 false ⟨(some 69), none, (.fieldAddr 0 (.t 68))⟩ []), (.mk 5 false ⟨(some 70), none, (.load none (.t 69))⟩ []), (.mk 6 false ⟨(some 71), none, (.fieldAddr 1 (.t 4))⟩ []), (.mk 7 false ⟨(some 72), none, (.load none (.t 71))⟩ []), (.mk 8 false ⟨(some 73), none, (.mv (.t 5))⟩ []), (.mk 9 false ⟨(some 74), none, (.indexAddr 11 (.t 72) (.t 73))⟩ []), (.mk 10 false ⟨(some 75), none, (.fieldAddr 0 (.t 74))⟩ []), (.mk 11 false ⟨(some 76), none, (.load none (.t 75))⟩ []), (.mk 12 false ⟨(some 77), none, (.bin .eql (.t 70) (.t 76))⟩ [])]) (.cond (.t 77) (.seq (.ops [⟨(some 2), none, (.mv (.c (.t (.bool false))))⟩]) .ret) .skip))) (.ops [⟨(some 63), none, (.mv (.t 6))⟩, ⟨(some 64), none, (.bin .add (.t 63) (.c (.t (.int .i64 1))))⟩, ⟨(some 6), none, (.mv (.t 64))⟩])))))))) (.ops [⟨(some 50), none, (.mv (.t 5))⟩, ⟨(some 51), none, (.bin .add (.t 50) (.c (.t (.int .i64 1))))⟩, ⟨(some 5), none, (.mv (.t 51))⟩]))))))))) (.ops [⟨(some 14), none, (.mv (.t 3))⟩, ⟨(some 15), none, (.bin .add (.t 14) (.c (.t (.int .i64 1))))⟩, ⟨(some 3), none, (.mv (.t 15))⟩])))))) (.seq (.ops [⟨(some 2), none, (.mv (.c (.t (.bool true))))⟩]) .ret))))
theorem k_spec_GateShapesOk : comp Try.prog 78 (Try.f14.body.getD .skip) = some c_spec_GateShapesOk := by kernel_rfl

theorem spec_GateShapesOk (l : List GateShape) (hl : GateShape.OkS l)  (σ : Store) : ACalls Try.prog 14 [.t (tGateShapeS l)] σ fun rr σ' => rr = .t (.bool (shapesG l)) ∧ σ' = σ := by
  refine acalls_of Try.func14 (by decide +kernel) (code := Try.f14.body.getD .skip) (n := 78) (c := c_spec_GateShapesOk) (rs := [(.tmp 2)]) rfl rfl k_spec_GateShapesOk (by kernel_rfl) (by simp) (fun hσ => ?_)
  have hh : True := trivial
  have fin : ∀ {u : V} {τ : Store}, u = .t (.bool (shapesG l)) → u.lt σ.length = true → retV σ.length (fun rr σ' => rr = .t (.bool (shapesG l)) ∧ σ' = σ) (σ ++ τ) (some [u]) := fun h h2 => ret_same rfl hσ h2 ⟨h, rfl⟩
  have fin0 : ∀ {u : V}, u = .t (.bool (shapesG l)) → retV σ.length (fun rr σ' => rr = .t (.bool (shapesG l)) ∧ σ' = σ) σ (some [u]) := fun h => ret_same0 rfl ⟨h, rfl⟩
  have y1 := hl.1
  simp -implicitDefEqProofs only [c_spec_GateShapesOk, List.length_map, tGateShapeS, S0, S1, S2, S3, S4, S5, S6, S7, S8, S9, S10, S11, S12, S13, S14, S15, S16, S17, opv, opvs, eget, env0, setD, lenStr, lenSl, isNilP, isNilS, putAt, if_true, if_false, reduceCtorEq, Nat.reduceLeDiff, Nat.reduceEqDiff, Nat.reduceSub, Nat.reduceMul, Nat.reduceAdd]
  refine cond_split (fun hb0 => ?_) (fun hb0 => ?_)
  · have hb1 : decide ((l.length : Int) ≤ 6) = false := by simp at hb0 ⊢; omega
    try simp -implicitDefEqProofs only [S0, S1, S2, S3, S4, S5, S6, S7, S8, S9, S10, S11, S12, S13, S14, S15, S16, S17, opv, opvs, eget, env0, setD, lenStr, lenSl, isNilP, isNilS, putAt, if_true, if_false, reduceCtorEq, Nat.reduceLeDiff, Nat.reduceEqDiff, Nat.reduceSub, Nat.reduceMul, Nat.reduceAdd]
    first | exact fin (tb (by rw [shapesG, hb1]; rfl)) rfl | exact fin0 (tb (by rw [shapesG, hb1]; rfl))
  have hb1 : decide ((l.length : Int) ≤ 6) = true := by simp at hb0 ⊢; omega
  try simp -implicitDefEqProofs only [List.length_map, tGateShapeS, S0, S1, S2, S3, S4, S5, S6, S7, S8, S9, S10, S11, S12, S13, S14, S15, S16, S17, opv, opvs, eget, env0, setD, lenStr, lenSl, isNilP, isNilS, putAt, if_true, if_false, reduceCtorEq, Nat.reduceLeDiff, Nat.reduceEqDiff, Nat.reduceSub, Nat.reduceMul, Nat.reduceAdd]
  refine loop_p [3, 0] [0] (fun k : Nat => [(3, .t (.int .i64 (k : Nat)))]) (fun k => k ≤ l.length ∧ (l.zipIdx.take k).all (shapeP l) = true) (fun k => l.length - k) 0 (by simp) ⟨Nat.zero_le _, rfl⟩ rfl ?_
  rintro k ⟨hk, hall⟩
  simp -implicitDefEqProofs only [keep, List.length_map, S0, S1, S2, S3, S4, S5, S6, S7, S8, S9, S10, S11, S12, S13, S14, S15, S16, S17, opv, opvs, eget, env0, setD, lenStr, lenSl, isNilP, isNilS, putAt, if_true, if_false, reduceCtorEq, Nat.reduceLeDiff, Nat.reduceEqDiff, Nat.reduceSub, Nat.reduceMul, Nat.reduceAdd]
  refine cond_split (fun h1 => ?_) (fun h1 => ?_)
  · obtain ⟨x, hx, hlt⟩ := at_of h1
    have hxo := hl.2 x (mem_at hx)
    have more := i64_succ (show k < 4611686018427387904 by omega)
    have hnk : x.Kind.length ≤ 1048576 := hxo.Kind
    simp -implicitDefEqProofs only [hx, more, GateShape.ts, GateField.ts, nat_nn, Nat.zero_le, List.getElem?_map, Option.map_some, List.length_map, tGateShapeS, S0, S1, S2, S3, S4, S5, S6, S7, S8, S9, S10, S11, S12, S13, S14, S15, S16, S17, opv, opvs, eget, env0, setD, lenStr, lenSl, isNilP, isNilS, putAt, if_true, if_false, reduceCtorEq, Nat.reduceLeDiff, Nat.reduceEqDiff, Nat.reduceSub, Nat.reduceMul, Nat.reduceAdd]
    refine call_pure (spec_l1NameOk x.Kind hnk _) ?_
    rcases hn : nameOk x.Kind with _ | _
    · have hno3 : shapeP l (x, k) = false := by simp only [shapeP, hn, Bool.false_and]
      simp -implicitDefEqProofs only [hx, more, cond_t, cond_f, GateShape.ts, GateField.ts, nat_nn, Nat.zero_le, List.getElem?_map, Option.map_some, List.length_map, tGateShapeS, S0, S1, S2, S3, S4, S5, S6, S7, S8, S9, S10, S11, S12, S13, S14, S15, S16, S17, opv, opvs, eget, env0, setD, lenStr, lenSl, isNilP, isNilS, putAt, if_true, if_false, reduceCtorEq, Nat.reduceLeDiff, Nat.reduceEqDiff, Nat.reduceSub, Nat.reduceMul, Nat.reduceAdd]
      (first | exact fin (tb (by rw [shapesG, all_not (zip_at hx) (p := shapeP l) hno3, Bool.and_false])) rfl | exact fin0 (tb (by rw [shapesG, all_not (zip_at hx) (p := shapeP l) hno3, Bool.and_false])))
    have hsl : ∀ b : Bool, (b = true → shapeP l (x, k) = false) → b = true → shapeP l (x, k) = false := fun _ h h' => h h'
    by_cases hk0 : k = 0
    · have d0 : decide (((k : Nat) : Int) > 0) = false := by simp; omega
      have d1 : decide (k > 0) = false := by simp; omega
      simp -implicitDefEqProofs only [hx, d0, more, cond_t, cond_f, GateShape.ts, GateField.ts, nat_nn, Nat.zero_le, List.getElem?_map, Option.map_some, List.length_map, tGateShapeS, S0, S1, S2, S3, S4, S5, S6, S7, S8, S9, S10, S11, S12, S13, S14, S15, S16, S17, opv, opvs, eget, env0, setD, lenStr, lenSl, isNilP, isNilS, putAt, if_true, if_false, reduceCtorEq, Nat.reduceLeDiff, Nat.reduceEqDiff, Nat.reduceSub, Nat.reduceMul, Nat.reduceAdd]
      refine cond_split (fun hb3 => ?_) (fun hb3 => ?_)
      · have hno3 : shapeP l (x, k) = false := by
          have : decide ((x.Fields.length : Int) ≤ 6) = false := by simp at hb3 ⊢; omega
          simp only [shapeP, shapeG, this, Bool.false_and, Bool.and_false]
        try simp -implicitDefEqProofs only [S0, S1, S2, S3, S4, S5, S6, S7, S8, S9, S10, S11, S12, S13, S14, S15, S16, S17, opv, opvs, eget, env0, setD, lenStr, lenSl, isNilP, isNilS, putAt, if_true, if_false, reduceCtorEq, Nat.reduceLeDiff, Nat.reduceEqDiff, Nat.reduceSub, Nat.reduceMul, Nat.reduceAdd]
        (first | exact fin (tb (by rw [shapesG, all_not (zip_at hx) (p := shapeP l) hno3, Bool.and_false])) rfl | exact fin0 (tb (by rw [shapesG, all_not (zip_at hx) (p := shapeP l) hno3, Bool.and_false])))
      have hsg : shapeP l (x, k) = x.Fields.zipIdx.all (fieldP (hasW (kindsOf l)) x.Fields) := by
        have : decide ((x.Fields.length : Int) ≤ 6) = true := by simp at hb3 ⊢; omega
        simp only [shapeP, shapeG, this, hn, d1, Bool.false_and, Bool.not_false, Bool.true_and]
      try simp -implicitDefEqProofs only [hx, more, GateShape.ts, GateField.ts, nat_nn, Nat.zero_le, List.getElem?_map, Option.map_some, List.length_map, tGateShapeS, S0, S1, S2, S3, S4, S5, S6, S7, S8, S9, S10, S11, S12, S13, S14, S15, S16, S17, opv, opvs, eget, env0, setD, lenStr, lenSl, isNilP, isNilS, putAt, if_true, if_false, reduceCtorEq, Nat.reduceLeDiff, Nat.reduceEqDiff, Nat.reduceSub, Nat.reduceMul, Nat.reduceAdd]
      have y2 := hxo.Fields.1
      obtain ⟨fs, hfs⟩ : ∃ fs, fs = x.Fields := ⟨_, rfl⟩
      have hfo := hxo.Fields
      rw [← hfs] at hfo y2 hsg
      refine loop_p [5, 0, 3, 4] [0, 3, 4] (fun j : Nat => [(5, .t (.int .i64 (j : Nat)))]) (fun j => j ≤ fs.length ∧ (fs.zipIdx.take j).all (fieldP (hasW (kindsOf l)) fs) = true) (fun j => fs.length - j) 0 (by simp) ⟨Nat.zero_le _, rfl⟩ rfl ?_
      rintro j ⟨hj, hall2⟩
      simp -implicitDefEqProofs only [keep, List.length_map, ← hfs, S0, S1, S2, S3, S4, S5, S6, S7, S8, S9, S10, S11, S12, S13, S14, S15, S16, S17, opv, opvs, eget, env0, setD, lenStr, lenSl, isNilP, isNilS, putAt, if_true, if_false, reduceCtorEq, Nat.reduceLeDiff, Nat.reduceEqDiff, Nat.reduceSub, Nat.reduceMul, Nat.reduceAdd]
      refine cond_split (fun h3 => ?_) (fun h3 => ?_)
      · obtain ⟨y, hy, hlt2⟩ := at_of h3
        have hyo := hfo.2 y (mem_at hy)
        have more2 := i64_succ (show j < 4611686018427387904 by omega)
        simp -implicitDefEqProofs only [hy, more2, ← hfs, GateShape.ts, GateField.ts, nat_nn, Nat.zero_le, List.getElem?_map, Option.map_some, List.length_map, tGateShapeS, S0, S1, S2, S3, S4, S5, S6, S7, S8, S9, S10, S11, S12, S13, S14, S15, S16, S17, opv, opvs, eget, env0, setD, lenStr, lenSl, isNilP, isNilS, putAt, if_true, if_false, reduceCtorEq, Nat.reduceLeDiff, Nat.reduceEqDiff, Nat.reduceSub, Nat.reduceMul, Nat.reduceAdd]
        have hfi := spec_l1FieldOk l hl.1 y hyo
        simp only [GateField.vs, tGateShapeS] at hfi
        refine call_pure (hfi _) ?_
        simp -implicitDefEqProofs only [hy, more2, ← hfs, GateShape.ts, GateField.ts, nat_nn, Nat.zero_le, List.getElem?_map, Option.map_some, List.length_map, tGateShapeS, S0, S1, S2, S3, S4, S5, S6, S7, S8, S9, S10, S11, S12, S13, S14, S15, S16, S17, opv, opvs, eget, env0, setD, lenStr, lenSl, isNilP, isNilS, putAt, if_true, if_false, reduceCtorEq, Nat.reduceLeDiff, Nat.reduceEqDiff, Nat.reduceSub, Nat.reduceMul, Nat.reduceAdd]
        refine cond_split (fun h4 => ?_) (fun h4 => ?_)
        · have h5 : fieldG (hasW (kindsOf l) y.To) y = false := by simpa using h4
          have hno2 : fieldP (hasW (kindsOf l)) fs (y, j) = false := by simp only [fieldP, h5, Bool.false_and]
          have hno3 : shapeP l (x, k) = false := by rw [hsg, all_not (zip_at hy) hno2]
          try simp -implicitDefEqProofs only [S0, S1, S2, S3, S4, S5, S6, S7, S8, S9, S10, S11, S12, S13, S14, S15, S16, S17, opv, opvs, eget, env0, setD, lenStr, lenSl, isNilP, isNilS, putAt, if_true, if_false, reduceCtorEq, Nat.reduceLeDiff, Nat.reduceEqDiff, Nat.reduceSub, Nat.reduceMul, Nat.reduceAdd]
          (first | exact fin (tb (by rw [shapesG, all_not (zip_at hx) (p := shapeP l) hno3, Bool.and_false])) rfl | exact fin0 (tb (by rw [shapesG, all_not (zip_at hx) (p := shapeP l) hno3, Bool.and_false])))
        have h5 : fieldG (hasW (kindsOf l) y.To) y = true := by simpa using h4
        try simp -implicitDefEqProofs only [hy, more2, ← hfs, GateShape.ts, GateField.ts, nat_nn, Nat.zero_le, List.getElem?_map, Option.map_some, List.length_map, tGateShapeS, S0, S1, S2, S3, S4, S5, S6, S7, S8, S9, S10, S11, S12, S13, S14, S15, S16, S17, opv, opvs, eget, env0, setD, lenStr, lenSl, isNilP, isNilS, putAt, if_true, if_false, reduceCtorEq, Nat.reduceLeDiff, Nat.reduceEqDiff, Nat.reduceSub, Nat.reduceMul, Nat.reduceAdd]
        refine loop_p [6, 0, 3, 4, 5] [0, 3, 4, 5] (fun i : Nat => [(6, .t (.int .i64 (i : Nat)))]) (fun i => i ≤ j ∧ (fs.take i).all (sameN y.Name) = true) (fun i => j - i) 0 (by simp) ⟨Nat.zero_le _, rfl⟩ rfl ?_
        rintro i ⟨hi, hall3⟩
        simp -implicitDefEqProofs only [keep, List.length_map, ← hfs, S0, S1, S2, S3, S4, S5, S6, S7, S8, S9, S10, S11, S12, S13, S14, S15, S16, S17, opv, opvs, eget, env0, setD, lenStr, lenSl, isNilP, isNilS, putAt, if_true, if_false, reduceCtorEq, Nat.reduceLeDiff, Nat.reduceEqDiff, Nat.reduceSub, Nat.reduceMul, Nat.reduceAdd]
        refine cond_split (fun h6 => ?_) (fun h6 => ?_)
        · have hij : i < j := by simpa using h6
          obtain ⟨z, hz⟩ : ∃ z, fs[i]? = some z := ⟨fs[i], List.getElem?_eq_getElem (by omega)⟩
          have more3 := i64_succ (show i < 4611686018427387904 by omega)
          simp -implicitDefEqProofs only [hy, hz, more3, ← hfs, GateShape.ts, GateField.ts, nat_nn, Nat.zero_le, List.getElem?_map, Option.map_some, List.length_map, tGateShapeS, S0, S1, S2, S3, S4, S5, S6, S7, S8, S9, S10, S11, S12, S13, S14, S15, S16, S17, opv, opvs, eget, env0, setD, lenStr, lenSl, isNilP, isNilS, putAt, if_true, if_false, reduceCtorEq, Nat.reduceLeDiff, Nat.reduceEqDiff, Nat.reduceSub, Nat.reduceMul, Nat.reduceAdd]
          refine cond_split (fun h7 => ?_) (fun h7 => ?_)
          · have hc : (cntN (fs.take j) y.Name == 0) = false := by
              rw [cnt_all, List.all_eq_false]
              refine ⟨z, List.mem_of_getElem? (i := i) (by rw [List.getElem?_take_of_lt hij]; exact hz), ?_⟩
              simp [sameN, h7]
            have hno2 : fieldP (hasW (kindsOf l)) fs (y, j) = false := by simp only [fieldP, hc, Bool.and_false]
            have hno3 : shapeP l (x, k) = false := by rw [hsg, all_not (zip_at hy) hno2]
            try simp -implicitDefEqProofs only [S0, S1, S2, S3, S4, S5, S6, S7, S8, S9, S10, S11, S12, S13, S14, S15, S16, S17, opv, opvs, eget, env0, setD, lenStr, lenSl, isNilP, isNilS, putAt, if_true, if_false, reduceCtorEq, Nat.reduceLeDiff, Nat.reduceEqDiff, Nat.reduceSub, Nat.reduceMul, Nat.reduceAdd]
            (first | exact fin (tb (by rw [shapesG, all_not (zip_at hx) (p := shapeP l) hno3, Bool.and_false])) rfl | exact fin0 (tb (by rw [shapesG, all_not (zip_at hx) (p := shapeP l) hno3, Bool.and_false])))
          · try simp -implicitDefEqProofs only [more3, S0, S1, S2, S3, S4, S5, S6, S7, S8, S9, S10, S11, S12, S13, S14, S15, S16, S17, opv, opvs, eget, env0, setD, lenStr, lenSl, isNilP, isNilS, putAt, if_true, if_false, reduceCtorEq, Nat.reduceLeDiff, Nat.reduceEqDiff, Nat.reduceSub, Nat.reduceMul, Nat.reduceAdd]
            first | exact lk_p0 (i + 1) (by simp) (by simp) (by omega) ⟨by omega, all_step hz hall3 (by simp [sameN, h7])⟩ rfl | exact lk_p (i + 1) (by simp) (by simp) hσ rfl (by omega) ⟨by omega, all_step hz hall3 (by simp [sameN, h7])⟩ (by simp [ltE, keep, eget, V.lt]) rfl | exact lk_pm (i + 1) (Nat.le_refl _) (by simp) hσ rfl rfl (by omega) ⟨by omega, all_step hz hall3 (by simp [sameN, h7])⟩ (by simp [ltE, keep, eget, V.lt]) rfl
        · have hii : i = j := by simp at h6; omega
          rw [hii, ← cnt_all] at hall3
          have hyes : fieldP (hasW (kindsOf l)) fs (y, j) = true := by simp only [fieldP, h5, hall3, Bool.and_self]
          try simp -implicitDefEqProofs only [more2, S0, S1, S2, S3, S4, S5, S6, S7, S8, S9, S10, S11, S12, S13, S14, S15, S16, S17, opv, opvs, eget, env0, setD, lenStr, lenSl, isNilP, isNilS, putAt, if_true, if_false, reduceCtorEq, Nat.reduceLeDiff, Nat.reduceEqDiff, Nat.reduceSub, Nat.reduceMul, Nat.reduceAdd]
          first | exact lk_p0 (j + 1) (by simp) (by simp) (by omega) ⟨by omega, all_step (zip_at hy) hall2 hyes⟩ rfl | exact lk_p (j + 1) (by simp) (by simp) hσ rfl (by omega) ⟨by omega, all_step (zip_at hy) hall2 hyes⟩ (by simp [ltE, keep, eget, V.lt]) rfl | exact lk_pm (j + 1) (Nat.le_refl _) (by simp) hσ rfl rfl (by omega) ⟨by omega, all_step (zip_at hy) hall2 hyes⟩ (by simp [ltE, keep, eget, V.lt]) rfl
      · replace hall2 := all_len hall2 ((end_of h3 hj).trans (by simp))
        rw [hall2] at hsg
        try simp -implicitDefEqProofs only [more, S0, S1, S2, S3, S4, S5, S6, S7, S8, S9, S10, S11, S12, S13, S14, S15, S16, S17, opv, opvs, eget, env0, setD, lenStr, lenSl, isNilP, isNilS, putAt, if_true, if_false, reduceCtorEq, Nat.reduceLeDiff, Nat.reduceEqDiff, Nat.reduceSub, Nat.reduceMul, Nat.reduceAdd]
        first | exact lk_p0 (k + 1) (by simp) (by simp) (by omega) ⟨by omega, all_step (zip_at hx) hall hsg⟩ rfl | exact lk_p (k + 1) (by simp) (by simp) hσ rfl (by omega) ⟨by omega, all_step (zip_at hx) hall hsg⟩ (by simp [ltE, keep, eget, V.lt]) rfl | exact lk_pm (k + 1) (Nat.le_refl _) (by simp) hσ rfl rfl (by omega) ⟨by omega, all_step (zip_at hx) hall hsg⟩ (by simp [ltE, keep, eget, V.lt]) rfl
    · have d0 : decide (((k : Nat) : Int) > 0) = true := by simp; omega
      have d1 : decide (k > 0) = true := by simp; omega
      obtain ⟨w, hw0, hw⟩ := prev_of hx d0 y1
      have hpk : prevK l k = w.Kind := by rw [prevK, hw0]; rfl
      simp -implicitDefEqProofs only [hx, d0, hw0, hw, more, cond_t, cond_f, GateShape.ts, GateField.ts, nat_nn, Nat.zero_le, List.getElem?_map, Option.map_some, List.length_map, tGateShapeS, S0, S1, S2, S3, S4, S5, S6, S7, S8, S9, S10, S11, S12, S13, S14, S15, S16, S17, opv, opvs, eget, env0, setD, lenStr, lenSl, isNilP, isNilS, putAt, if_true, if_false, reduceCtorEq, Nat.reduceLeDiff, Nat.reduceEqDiff, Nat.reduceSub, Nat.reduceMul, Nat.reduceAdd]
      rcases hlss : Op.bytesLess w.Kind x.Kind with _ | _
      · have hno3 : shapeP l (x, k) = false := by simp [shapeP, hpk, hlss, d1]
        try simp -implicitDefEqProofs only [hlss, cond_t, cond_f, Bool.not_false, S0, S1, S2, S3, S4, S5, S6, S7, S8, S9, S10, S11, S12, S13, S14, S15, S16, S17, opv, opvs, eget, env0, setD, lenStr, lenSl, isNilP, isNilS, putAt, if_true, if_false, reduceCtorEq, Nat.reduceLeDiff, Nat.reduceEqDiff, Nat.reduceSub, Nat.reduceMul, Nat.reduceAdd]
        (first | exact fin (tb (by rw [shapesG, all_not (zip_at hx) (p := shapeP l) hno3, Bool.and_false])) rfl | exact fin0 (tb (by rw [shapesG, all_not (zip_at hx) (p := shapeP l) hno3, Bool.and_false])))
      try simp -implicitDefEqProofs only [hx, hlss, cond_t, cond_f, Bool.not_true, GateShape.ts, GateField.ts, nat_nn, Nat.zero_le, List.getElem?_map, Option.map_some, List.length_map, tGateShapeS, S0, S1, S2, S3, S4, S5, S6, S7, S8, S9, S10, S11, S12, S13, S14, S15, S16, S17, opv, opvs, eget, env0, setD, lenStr, lenSl, isNilP, isNilS, putAt, if_true, if_false, reduceCtorEq, Nat.reduceLeDiff, Nat.reduceEqDiff, Nat.reduceSub, Nat.reduceMul, Nat.reduceAdd]
      refine cond_split (fun hb3 => ?_) (fun hb3 => ?_)
      · have hno3 : shapeP l (x, k) = false := by
          have : decide ((x.Fields.length : Int) ≤ 6) = false := by simp at hb3 ⊢; omega
          simp only [shapeP, shapeG, this, Bool.false_and, Bool.and_false]
        try simp -implicitDefEqProofs only [S0, S1, S2, S3, S4, S5, S6, S7, S8, S9, S10, S11, S12, S13, S14, S15, S16, S17, opv, opvs, eget, env0, setD, lenStr, lenSl, isNilP, isNilS, putAt, if_true, if_false, reduceCtorEq, Nat.reduceLeDiff, Nat.reduceEqDiff, Nat.reduceSub, Nat.reduceMul, Nat.reduceAdd]
        (first | exact fin (tb (by rw [shapesG, all_not (zip_at hx) (p := shapeP l) hno3, Bool.and_false])) rfl | exact fin0 (tb (by rw [shapesG, all_not (zip_at hx) (p := shapeP l) hno3, Bool.and_false])))
      have hsg : shapeP l (x, k) = x.Fields.zipIdx.all (fieldP (hasW (kindsOf l)) x.Fields) := by
        have : decide ((x.Fields.length : Int) ≤ 6) = true := by simp at hb3 ⊢; omega
        simp only [shapeP, shapeG, this, hn, d1, hpk, hlss, Bool.not_true, Bool.and_false, Bool.not_false, Bool.true_and]
      try simp -implicitDefEqProofs only [hx, more, GateShape.ts, GateField.ts, nat_nn, Nat.zero_le, List.getElem?_map, Option.map_some, List.length_map, tGateShapeS, S0, S1, S2, S3, S4, S5, S6, S7, S8, S9, S10, S11, S12, S13, S14, S15, S16, S17, opv, opvs, eget, env0, setD, lenStr, lenSl, isNilP, isNilS, putAt, if_true, if_false, reduceCtorEq, Nat.reduceLeDiff, Nat.reduceEqDiff, Nat.reduceSub, Nat.reduceMul, Nat.reduceAdd]
      have y2 := hxo.Fields.1
      obtain ⟨fs, hfs⟩ : ∃ fs, fs = x.Fields := ⟨_, rfl⟩
      have hfo := hxo.Fields
      rw [← hfs] at hfo y2 hsg
      refine loop_p [5, 0, 3, 4] [0, 3, 4] (fun j : Nat => [(5, .t (.int .i64 (j : Nat)))]) (fun j => j ≤ fs.length ∧ (fs.zipIdx.take j).all (fieldP (hasW (kindsOf l)) fs) = true) (fun j => fs.length - j) 0 (by simp) ⟨Nat.zero_le _, rfl⟩ rfl ?_
      rintro j ⟨hj, hall2⟩
      simp -implicitDefEqProofs only [keep, List.length_map, ← hfs, S0, S1, S2, S3, S4, S5, S6, S7, S8, S9, S10, S11, S12, S13, S14, S15, S16, S17, opv, opvs, eget, env0, setD, lenStr, lenSl, isNilP, isNilS, putAt, if_true, if_false, reduceCtorEq, Nat.reduceLeDiff, Nat.reduceEqDiff, Nat.reduceSub, Nat.reduceMul, Nat.reduceAdd]
      refine cond_split (fun h3 => ?_) (fun h3 => ?_)
      · obtain ⟨y, hy, hlt2⟩ := at_of h3
        have hyo := hfo.2 y (mem_at hy)
        have more2 := i64_succ (show j < 4611686018427387904 by omega)
        simp -implicitDefEqProofs only [hy, more2, ← hfs, GateShape.ts, GateField.ts, nat_nn, Nat.zero_le, List.getElem?_map, Option.map_some, List.length_map, tGateShapeS, S0, S1, S2, S3, S4, S5, S6, S7, S8, S9, S10, S11, S12, S13, S14, S15, S16, S17, opv, opvs, eget, env0, setD, lenStr, lenSl, isNilP, isNilS, putAt, if_true, if_false, reduceCtorEq, Nat.reduceLeDiff, Nat.reduceEqDiff, Nat.reduceSub, Nat.reduceMul, Nat.reduceAdd]
        have hfi := spec_l1FieldOk l hl.1 y hyo
        simp only [GateField.vs, tGateShapeS] at hfi
        refine call_pure (hfi _) ?_
        simp -implicitDefEqProofs only [hy, more2, ← hfs, GateShape.ts, GateField.ts, nat_nn, Nat.zero_le, List.getElem?_map, Option.map_some, List.length_map, tGateShapeS, S0, S1, S2, S3, S4, S5, S6, S7, S8, S9, S10, S11, S12, S13, S14, S15, S16, S17, opv, opvs, eget, env0, setD, lenStr, lenSl, isNilP, isNilS, putAt, if_true, if_false, reduceCtorEq, Nat.reduceLeDiff, Nat.reduceEqDiff, Nat.reduceSub, Nat.reduceMul, Nat.reduceAdd]
        refine cond_split (fun h4 => ?_) (fun h4 => ?_)
        · have h5 : fieldG (hasW (kindsOf l) y.To) y = false := by simpa using h4
          have hno2 : fieldP (hasW (kindsOf l)) fs (y, j) = false := by simp only [fieldP, h5, Bool.false_and]
          have hno3 : shapeP l (x, k) = false := by rw [hsg, all_not (zip_at hy) hno2]
          try simp -implicitDefEqProofs only [S0, S1, S2, S3, S4, S5, S6, S7, S8, S9, S10, S11, S12, S13, S14, S15, S16, S17, opv, opvs, eget, env0, setD, lenStr, lenSl, isNilP, isNilS, putAt, if_true, if_false, reduceCtorEq, Nat.reduceLeDiff, Nat.reduceEqDiff, Nat.reduceSub, Nat.reduceMul, Nat.reduceAdd]
          (first | exact fin (tb (by rw [shapesG, all_not (zip_at hx) (p := shapeP l) hno3, Bool.and_false])) rfl | exact fin0 (tb (by rw [shapesG, all_not (zip_at hx) (p := shapeP l) hno3, Bool.and_false])))
        have h5 : fieldG (hasW (kindsOf l) y.To) y = true := by simpa using h4
        try simp -implicitDefEqProofs only [hy, more2, ← hfs, GateShape.ts, GateField.ts, nat_nn, Nat.zero_le, List.getElem?_map, Option.map_some, List.length_map, tGateShapeS, S0, S1, S2, S3, S4, S5, S6, S7, S8, S9, S10, S11, S12, S13, S14, S15, S16, S17, opv, opvs, eget, env0, setD, lenStr, lenSl, isNilP, isNilS, putAt, if_true, if_false, reduceCtorEq, Nat.reduceLeDiff, Nat.reduceEqDiff, Nat.reduceSub, Nat.reduceMul, Nat.reduceAdd]
        refine loop_p [6, 0, 3, 4, 5] [0, 3, 4, 5] (fun i : Nat => [(6, .t (.int .i64 (i : Nat)))]) (fun i => i ≤ j ∧ (fs.take i).all (sameN y.Name) = true) (fun i => j - i) 0 (by simp) ⟨Nat.zero_le _, rfl⟩ rfl ?_
        rintro i ⟨hi, hall3⟩
        simp -implicitDefEqProofs only [keep, List.length_map, ← hfs, S0, S1, S2, S3, S4, S5, S6, S7, S8, S9, S10, S11, S12, S13, S14, S15, S16, S17, opv, opvs, eget, env0, setD, lenStr, lenSl, isNilP, isNilS, putAt, if_true, if_false, reduceCtorEq, Nat.reduceLeDiff, Nat.reduceEqDiff, Nat.reduceSub, Nat.reduceMul, Nat.reduceAdd]
        refine cond_split (fun h6 => ?_) (fun h6 => ?_)
        · have hij : i < j := by simpa using h6
          obtain ⟨z, hz⟩ : ∃ z, fs[i]? = some z := ⟨fs[i], List.getElem?_eq_getElem (by omega)⟩
          have more3 := i64_succ (show i < 4611686018427387904 by omega)
          simp -implicitDefEqProofs only [hy, hz, more3, ← hfs, GateShape.ts, GateField.ts, nat_nn, Nat.zero_le, List.getElem?_map, Option.map_some, List.length_map, tGateShapeS, S0, S1, S2, S3, S4, S5, S6, S7, S8, S9, S10, S11, S12, S13, S14, S15, S16, S17, opv, opvs, eget, env0, setD, lenStr, lenSl, isNilP, isNilS, putAt, if_true, if_false, reduceCtorEq, Nat.reduceLeDiff, Nat.reduceEqDiff, Nat.reduceSub, Nat.reduceMul, Nat.reduceAdd]
          refine cond_split (fun h7 => ?_) (fun h7 => ?_)
          · have hc : (cntN (fs.take j) y.Name == 0) = false := by
              rw [cnt_all, List.all_eq_false]
              refine ⟨z, List.mem_of_getElem? (i := i) (by rw [List.getElem?_take_of_lt hij]; exact hz), ?_⟩
              simp [sameN, h7]
            have hno2 : fieldP (hasW (kindsOf l)) fs (y, j) = false := by simp only [fieldP, hc, Bool.and_false]
            have hno3 : shapeP l (x, k) = false := by rw [hsg, all_not (zip_at hy) hno2]
            try simp -implicitDefEqProofs only [S0, S1, S2, S3, S4, S5, S6, S7, S8, S9, S10, S11, S12, S13, S14, S15, S16, S17, opv, opvs, eget, env0, setD, lenStr, lenSl, isNilP, isNilS, putAt, if_true, if_false, reduceCtorEq, Nat.reduceLeDiff, Nat.reduceEqDiff, Nat.reduceSub, Nat.reduceMul, Nat.reduceAdd]
            (first | exact fin (tb (by rw [shapesG, all_not (zip_at hx) (p := shapeP l) hno3, Bool.and_false])) rfl | exact fin0 (tb (by rw [shapesG, all_not (zip_at hx) (p := shapeP l) hno3, Bool.and_false])))
          · try simp -implicitDefEqProofs only [more3, S0, S1, S2, S3, S4, S5, S6, S7, S8, S9, S10, S11, S12, S13, S14, S15, S16, S17, opv, opvs, eget, env0, setD, lenStr, lenSl, isNilP, isNilS, putAt, if_true, if_false, reduceCtorEq, Nat.reduceLeDiff, Nat.reduceEqDiff, Nat.reduceSub, Nat.reduceMul, Nat.reduceAdd]
            first | exact lk_p0 (i + 1) (by simp) (by simp) (by omega) ⟨by omega, all_step hz hall3 (by simp [sameN, h7])⟩ rfl | exact lk_p (i + 1) (by simp) (by simp) hσ rfl (by omega) ⟨by omega, all_step hz hall3 (by simp [sameN, h7])⟩ (by simp [ltE, keep, eget, V.lt]) rfl | exact lk_pm (i + 1) (Nat.le_refl _) (by simp) hσ rfl rfl (by omega) ⟨by omega, all_step hz hall3 (by simp [sameN, h7])⟩ (by simp [ltE, keep, eget, V.lt]) rfl
        · have hii : i = j := by simp at h6; omega
          rw [hii, ← cnt_all] at hall3
          have hyes : fieldP (hasW (kindsOf l)) fs (y, j) = true := by simp only [fieldP, h5, hall3, Bool.and_self]
          try simp -implicitDefEqProofs only [more2, S0, S1, S2, S3, S4, S5, S6, S7, S8, S9, S10, S11, S12, S13, S14, S15, S16, S17, opv, opvs, eget, env0, setD, lenStr, lenSl, isNilP, isNilS, putAt, if_true, if_false, reduceCtorEq, Nat.reduceLeDiff, Nat.reduceEqDiff, Nat.reduceSub, Nat.reduceMul, Nat.reduceAdd]
          first | exact lk_p0 (j + 1) (by simp) (by simp) (by omega) ⟨by omega, all_step (zip_at hy) hall2 hyes⟩ rfl | exact lk_p (j + 1) (by simp) (by simp) hσ rfl (by omega) ⟨by omega, all_step (zip_at hy) hall2 hyes⟩ (by simp [ltE, keep, eget, V.lt]) rfl | exact lk_pm (j + 1) (Nat.le_refl _) (by simp) hσ rfl rfl (by omega) ⟨by omega, all_step (zip_at hy) hall2 hyes⟩ (by simp [ltE, keep, eget, V.lt]) rfl
      · replace hall2 := all_len hall2 ((end_of h3 hj).trans (by simp))
        rw [hall2] at hsg
        try simp -implicitDefEqProofs only [more, S0, S1, S2, S3, S4, S5, S6, S7, S8, S9, S10, S11, S12, S13, S14, S15, S16, S17, opv, opvs, eget, env0, setD, lenStr, lenSl, isNilP, isNilS, putAt, if_true, if_false, reduceCtorEq, Nat.reduceLeDiff, Nat.reduceEqDiff, Nat.reduceSub, Nat.reduceMul, Nat.reduceAdd]
        first | exact lk_p0 (k + 1) (by simp) (by simp) (by omega) ⟨by omega, all_step (zip_at hx) hall hsg⟩ rfl | exact lk_p (k + 1) (by simp) (by simp) hσ rfl (by omega) ⟨by omega, all_step (zip_at hx) hall hsg⟩ (by simp [ltE, keep, eget, V.lt]) rfl | exact lk_pm (k + 1) (Nat.le_refl _) (by simp) hσ rfl rfl (by omega) ⟨by omega, all_step (zip_at hx) hall hsg⟩ (by simp [ltE, keep, eget, V.lt]) rfl
  · replace hall := all_len hall ((end_of h1 hk).trans (by simp))
    simp -implicitDefEqProofs only [S0, S1, S2, S3, S4, S5, S6, S7, S8, S9, S10, S11, S12, S13, S14, S15, S16, S17, opv, opvs, eget, env0, setD, lenStr, lenSl, isNilP, isNilS, putAt, if_true, if_false, reduceCtorEq, Nat.reduceLeDiff, Nat.reduceEqDiff, Nat.reduceSub, Nat.reduceMul, Nat.reduceAdd]
    first | exact fin0 (tb (by rw [shapesG, hb1, hall]; rfl)) | exact fin (tb (by rw [shapesG, hb1, hall]; rfl)) rfl

def c_impl_GateShapesOk : C := (.seq (.ops [⟨(some 2), none, (.mv (.c (.t (.bool false))))⟩]) (.seq (.seq (.ops [⟨(some 8), none, (.mv (.t 0))⟩, ⟨(some 9), none, (.len false (.t 8))⟩, ⟨(some 10), none, (.bin .gtr (.t 9) (.c (.t (.int .i64 6))))⟩]) (.cond (.t 10) (.seq (.ops [⟨(some 2), none, (.mv (.c (.t (.bool false))))⟩]) .ret) .skip)) (.seq (.ops [⟨(some 11), none, (.mv (.t 0))⟩, ⟨(some 12), none, (.len false (.t 11))⟩, ⟨(some 13), none, (.mkSl 1 16 [(.t (.str []))] (.c (.t (.int .i64 0))) (.t 12))⟩, ⟨(some 3), none, (.mv (.t 13))⟩]) (.seq (.seq (.ops [⟨(some 14), none, (.mv (.t 0))⟩, ⟨(some 15), none, (.len false (.t 14))⟩, ⟨(some 16), none, (.mv (.c (.t (.int .i64 0))))⟩]) (.block 0 (.loop (.seq (.ops [⟨(some 17), none, (.bin .lss (.t 16) (.t 15))⟩]) (.seq (.cond (.t 17) .skip (.exit 0)) (.seq (.block 1 (.seq (.ops [⟨(some 18), none, (.indexAddr 2 (.t 14) (.t 16))⟩, ⟨(some 19), none, (.load (some 2) (.t 18))⟩, ⟨(some 5), none, (.new [(.t (.str [])), .nils])⟩, ⟨none, none, (.store 2 (.t 5) (.t 19))⟩]) (.ops [⟨(some 20), none, (.mv (.t 3))⟩, ⟨(some 21), none, (.fieldAddr 0 (.t 5))⟩, ⟨(some 22), none, (.load none (.t 21))⟩, ⟨(some 23), none, (.lit none 1 1 [(.t (.str []))] [⟨0, (.t 22)⟩])⟩, ⟨(some 24), none, (.append 1 16 (.t 20) (.t 23))⟩, ⟨(some 3), none, (.mv (.t 24))⟩]))) (.ops [⟨(some 25), none, (.bin .add (.t 16) (.c (.t (.int .i64 1))))⟩, ⟨(some 16), none, (.mv (.t 25))⟩]))))))) (.seq (.seq (.ops [⟨(some 26), none, (.mv (.t 3))⟩, ⟨(some 27), none, (.call (.c (.fn (.func 35) [])) [(.t 26)])⟩, ⟨(some 28), none, (.un .not (.t 27))⟩]) (.cond (.t 28) (.seq (.ops [⟨(some 2), none, (.mv (.c (.t (.bool false))))⟩]) .ret) .skip)) (.seq (.seq (.ops [⟨(some 29), none, (.mv (.t 0))⟩, ⟨(some 30), none, (.len false (.t 29))⟩, ⟨(some 31), none, (.mv (.c (.t (.int .i64 0))))⟩]) (.block 2 (.loop (.seq (.ops [⟨(some 32), none, (.bin .lss (.t 31) (.t 30))⟩]) (.seq (.cond (.t 32) .skip (.exit 2)) (.seq (.block 3 (.seq (.ops [⟨(some 33), none, (.indexAddr 2 (.t 29) (.t 31))⟩, ⟨(some 34), none, (.load (some 2) (.t 33))⟩, ⟨(some 7), none, (.new [(.t (.str [])), .nils])⟩, ⟨none, none, (.store 2 (.t 7) (.t 34))⟩]) (.seq (.ops [⟨(some 35), none, (.load (some 2) (.t 7))⟩, ⟨(some 36), none, (.mv (.t 3))⟩, ⟨(some 37), none, (.call (.c (.fn (.func 36) [])) [(.t 35), (.t 36)])⟩, ⟨(some 38), none, (.un .not (.t 37))⟩]) (.cond (.t 38) (.seq (.ops [⟨(some 2), none, (.mv (.c (.t (.bool false))))⟩]) .ret) .skip)))) (.ops [⟨(some 39), none, (.bin .add (.t 31) (.c (.t (.int .i64 1))))⟩, ⟨(some 31), none, (.mv (.t 39))⟩]))))))) (.seq (.ops [⟨(some 2), none, (.mv (.c (.t (.bool true))))⟩]) .ret)))))))
theorem k_impl_GateShapesOk : comp Try.prog 40 (Try.f19.body.getD .skip) = some c_impl_GateShapesOk := by kernel_rfl

theorem impl_GateShapesOk (l : List GateShape) (hl : GateShape.OkS l)  (σ : Store) : ACalls Try.prog 19 [.t (tGateShapeS l)] σ fun rr σ' => rr = .t (.bool (shapesG l)) ∧ σ' = σ := by
  refine acalls_of Try.func19 (by decide +kernel) (code := Try.f19.body.getD .skip) (n := 40) (c := c_impl_GateShapesOk) (rs := [(.tmp 2)]) rfl rfl k_impl_GateShapesOk (by kernel_rfl) (by simp) (fun hσ => ?_)
  have hh : True := trivial
  have fin : ∀ {u : V} {τ : Store}, u = .t (.bool (shapesG l)) → u.lt σ.length = true → retV σ.length (fun rr σ' => rr = .t (.bool (shapesG l)) ∧ σ' = σ) (σ ++ τ) (some [u]) := fun h h2 => ret_same rfl hσ h2 ⟨h, rfl⟩
  have fin0 : ∀ {u : V}, u = .t (.bool (shapesG l)) → retV σ.length (fun rr σ' => rr = .t (.bool (shapesG l)) ∧ σ' = σ) σ (some [u]) := fun h => ret_same0 rfl ⟨h, rfl⟩
  have y1 := hl.1
  have hko := kindsOf_small hl
  have finS : ∀ {u : V} {s' : Store}, Kp σ s' → σ.length ≤ s'.length → u = .t (.bool (shapesG l)) → u.lt σ.length = true → retV σ.length (fun rr σ' => rr = .t (.bool (shapesG l)) ∧ σ' = σ) s' (some [u]) := fun hk hl h h2 => by rw [kp_split hk hl]; exact fin h h2
  simp -implicitDefEqProofs only [c_impl_GateShapesOk, List.length_map, tGateShapeS, S0, S1, S2, S3, S4, S5, S6, S7, S8, S9, S10, S11, S12, S13, S14, S15, S16, S17, opv, opvs, eget, env0, setD, lenStr, lenSl, isNilP, isNilS, putAt, if_true, if_false, reduceCtorEq, Nat.reduceLeDiff, Nat.reduceEqDiff, Nat.reduceSub, Nat.reduceMul, Nat.reduceAdd]
  refine cond_split (fun hb0 => ?_) (fun hb0 => ?_)
  · have hb1 : decide ((l.length : Int) ≤ 6) = false := by simp at hb0 ⊢; omega
    try simp -implicitDefEqProofs only [S0, S1, S2, S3, S4, S5, S6, S7, S8, S9, S10, S11, S12, S13, S14, S15, S16, S17, opv, opvs, eget, env0, setD, lenStr, lenSl, isNilP, isNilS, putAt, if_true, if_false, reduceCtorEq, Nat.reduceLeDiff, Nat.reduceEqDiff, Nat.reduceSub, Nat.reduceMul, Nat.reduceAdd]
    first | exact fin (tb (by rw [shapesG, hb1]; rfl)) rfl | exact fin0 (tb (by rw [shapesG, hb1]; rfl))
  have hb1 : decide ((l.length : Int) ≤ 6) = true := by simp at hb0 ⊢; omega
  have hl6 : l.length ≤ 6 := by simp at hb0; omega
  have m1 : l.length * 16 ≤ maxBy := by simp only [maxBy]; omega
  try simp -implicitDefEqProofs only [List.length_map, tGateShapeS, nat_nn, Nat.zero_le, m1, S0, S1, S2, S3, S4, S5, S6, S7, S8, S9, S10, S11, S12, S13, S14, S15, S16, S17, opv, opvs, eget, env0, setD, lenStr, lenSl, isNilP, isNilS, putAt, if_true, if_false, reduceCtorEq, Nat.reduceLeDiff, Nat.reduceEqDiff, Nat.reduceSub, Nat.reduceMul, Nat.reduceAdd]
  repeat' (with_reducible refine And.intro (by first | decide | omega | simp [maxBy] | (simp [maxBy]; omega)) ?_)
  try simp -implicitDefEqProofs only [List.length_map, tGateShapeS, nat_nn, Nat.zero_le, m1, S0, S1, S2, S3, S4, S5, S6, S7, S8, S9, S10, S11, S12, S13, S14, S15, S16, S17, opv, opvs, eget, env0, setD, lenStr, lenSl, isNilP, isNilS, putAt, if_true, if_false, reduceCtorEq, Nat.reduceLeDiff, Nat.reduceEqDiff, Nat.reduceSub, Nat.reduceMul, Nat.reduceAdd]
  refine loop_g [3, 16, 0, 14, 15] [0, 14, 15] (fun g : Gk => [(3, g.v), (16, .t (.int .i64 (g.k : Nat)))]) (fun g => g.s) (fun g => g.k ≤ l.length ∧ OFl σ 1 ((kindsOf (l.take g.k)).map tStr) g.v g.s g.is) (fun g => l.length - g.k) ⟨0, .sl σ.length 0 0 0, σ ++ [.slc 1 []], [σ.length]⟩ (by simp) ⟨Nat.zero_le _, OFl.obj (by omega)⟩ rfl rfl ?_
  rintro ⟨k, v, s, is⟩ ⟨hk, hof⟩
  simp only at hk hof
  have hbl : σ.length ≤ s.length := hof.le
  have hone := hof.one
  simp -implicitDefEqProofs only [keep, List.length_map, S0, S1, S2, S3, S4, S5, S6, S7, S8, S9, S10, S11, S12, S13, S14, S15, S16, S17, opv, opvs, eget, env0, setD, lenStr, lenSl, isNilP, isNilS, putAt, if_true, if_false, reduceCtorEq, Nat.reduceLeDiff, Nat.reduceEqDiff, Nat.reduceSub, Nat.reduceMul, Nat.reduceAdd]
  refine cond_split (fun h1 => ?_) (fun h1 => ?_)
  · obtain ⟨x, hx, hlt⟩ := at_of h1
    have more := i64_succ (show k < 4611686018427387904 by omega)
    have c1 : 0 < 1 := by omega
    have hlk : (kindsOf (l.take k)).length = k := by rw [kindsOf, List.length_map, List.length_take]; omega
    simp -implicitDefEqProofs only [hx, more, c1, hone, one_cells hone, GateShape.ts, GateField.ts, nat_nn, Nat.zero_le, List.getElem?_map, Option.map_some, List.length_map, tGateShapeS, S0, S1, S2, S3, S4, S5, S6, S7, S8, S9, S10, S11, S12, S13, S14, S15, S16, S17, opv, opvs, eget, env0, setD, lenStr, lenSl, isNilP, isNilS, putAt, if_true, if_false, reduceCtorEq, Nat.reduceLeDiff, Nat.reduceEqDiff, Nat.reduceSub, Nat.reduceMul, Nat.reduceAdd]
    refine lit_rows ?_
    simp -implicitDefEqProofs only [hx, more, c1, hone, one_cells hone, GateShape.ts, GateField.ts, nat_nn, Nat.zero_le, List.getElem?_map, Option.map_some, List.length_map, tGateShapeS, S0, S1, S2, S3, S4, S5, S6, S7, S8, S9, S10, S11, S12, S13, S14, S15, S16, S17, opv, opvs, eget, env0, setD, lenStr, lenSl, isNilP, isNilS, putAt, if_true, if_false, reduceCtorEq, Nat.reduceLeDiff, Nat.reduceEqDiff, Nat.reduceSub, Nat.reduceMul, Nat.reduceAdd]
    refine (hof.more _).app (r := [.str x.Kind]) (by simp [scalar]) (by rw [List.length_map, hlk]; simp only [maxBy]; omega) (by rw [List.length_map, hlk]; omega) ?_
    intro v' s' is' hle hof'
    have hone' := hof'.one
    try simp -implicitDefEqProofs only [one_cells hone', hone', more, S0, S1, S2, S3, S4, S5, S6, S7, S8, S9, S10, S11, S12, S13, S14, S15, S16, S17, opv, opvs, eget, env0, setD, lenStr, lenSl, isNilP, isNilS, putAt, if_true, if_false, reduceCtorEq, Nat.reduceLeDiff, Nat.reduceEqDiff, Nat.reduceSub, Nat.reduceMul, Nat.reduceAdd]
    refine lk_g ⟨k + 1, v', s', is'⟩ (by simp only; omega) ⟨by simp only; omega, by simp only; rw [kinds_take hx]; exact hof'⟩ (by have := hof'.le; omega) rfl rfl
  have hkk := end_of h1 hk
  rw [hkk, List.take_length] at hof
  clear h1 hk
  simp -implicitDefEqProofs only [hone, one_cells hone, S0, S1, S2, S3, S4, S5, S6, S7, S8, S9, S10, S11, S12, S13, S14, S15, S16, S17, opv, opvs, eget, env0, setD, lenStr, lenSl, isNilP, isNilS, putAt, if_true, if_false, reduceCtorEq, Nat.reduceLeDiff, Nat.reduceEqDiff, Nat.reduceSub, Nat.reduceMul, Nat.reduceAdd]
  refine call_bor (fun σ => impl_ascendingNames (kindsOf l) hko σ) rfl ⟨_, _, rfl, sees_lst hof.own rfl (List.prefix_refl _), rfl⟩ ?_
  simp -implicitDefEqProofs only [hone, one_cells hone, S0, S1, S2, S3, S4, S5, S6, S7, S8, S9, S10, S11, S12, S13, S14, S15, S16, S17, opv, opvs, eget, env0, setD, lenStr, lenSl, isNilP, isNilS, putAt, if_true, if_false, reduceCtorEq, Nat.reduceLeDiff, Nat.reduceEqDiff, Nat.reduceSub, Nat.reduceMul, Nat.reduceAdd]
  rcases ha : ascW (kindsOf l) with _ | _
  · have hr : shapesG l = false := by rw [← shapes_eq, shapesI, ha, Bool.and_false, Bool.false_and]
    simp -implicitDefEqProofs only [cond_t, cond_f, Bool.not_false, S0, S1, S2, S3, S4, S5, S6, S7, S8, S9, S10, S11, S12, S13, S14, S15, S16, S17, opv, opvs, eget, env0, setD, lenStr, lenSl, isNilP, isNilS, putAt, if_true, if_false, reduceCtorEq, Nat.reduceLeDiff, Nat.reduceEqDiff, Nat.reduceSub, Nat.reduceMul, Nat.reduceAdd]
    exact finS hof.kp hbl (tb hr.symm) rfl
  have hr : shapesG l = l.all (shapeG (hasW (kindsOf l))) := by rw [← shapes_eq, shapesI, ha, hb1]; rfl
  simp -implicitDefEqProofs only [cond_t, cond_f, Bool.not_true, hone, one_cells hone, List.length_map, S0, S1, S2, S3, S4, S5, S6, S7, S8, S9, S10, S11, S12, S13, S14, S15, S16, S17, opv, opvs, eget, env0, setD, lenStr, lenSl, isNilP, isNilS, putAt, if_true, if_false, reduceCtorEq, Nat.reduceLeDiff, Nat.reduceEqDiff, Nat.reduceSub, Nat.reduceMul, Nat.reduceAdd]
  refine loop_g [31, 3, 29, 30] [3, 29, 30] (fun g : Gs => [(31, .t (.int .i64 (g.k : Nat)))]) (fun g => g.s) (fun g => g.k ≤ l.length ∧ (l.take g.k).all (shapeG (hasW (kindsOf l))) = true ∧ s <+: g.s) (fun g => l.length - g.k) ⟨0, s⟩ hbl ⟨Nat.zero_le _, rfl, List.prefix_refl _⟩ rfl rfl ?_
  rintro ⟨k, s2⟩ ⟨hk, hall, hpre⟩
  simp only at hk hall hpre
  have hbl2 : σ.length ≤ s2.length := Nat.le_trans hbl hpre.length_le
  have hkp2 : Kp σ s2 := fun j hj => by
    obtain ⟨τ, rfl⟩ := hpre
    rw [List.getElem?_append_left (by omega)]
    exact hof.kp j hj
  simp -implicitDefEqProofs only [keep, List.length_map, S0, S1, S2, S3, S4, S5, S6, S7, S8, S9, S10, S11, S12, S13, S14, S15, S16, S17, opv, opvs, eget, env0, setD, lenStr, lenSl, isNilP, isNilS, putAt, if_true, if_false, reduceCtorEq, Nat.reduceLeDiff, Nat.reduceEqDiff, Nat.reduceSub, Nat.reduceMul, Nat.reduceAdd]
  refine cond_split (fun h1 => ?_) (fun h1 => ?_)
  · obtain ⟨x, hx, hlt⟩ := at_of h1
    have hxo := hl.2 x (mem_at hx)
    have more := i64_succ (show k < 4611686018427387904 by omega)
    simp -implicitDefEqProofs only [hx, more, hone, one_cells hone, GateShape.ts, GateField.ts, nat_nn, Nat.zero_le, List.getElem?_map, Option.map_some, List.length_map, tGateShapeS, S0, S1, S2, S3, S4, S5, S6, S7, S8, S9, S10, S11, S12, S13, S14, S15, S16, S17, opv, opvs, eget, env0, setD, lenStr, lenSl, isNilP, isNilS, putAt, if_true, if_false, reduceCtorEq, Nat.reduceLeDiff, Nat.reduceEqDiff, Nat.reduceSub, Nat.reduceMul, Nat.reduceAdd]
    refine call_bor (fun σ => impl_shapeOk x hxo (kindsOf l) hko.1 σ) rfl ⟨_, _, rfl, ?_, _, _, rfl, sees_lst hof.own rfl (hpre.trans (List.prefix_append _ _)), rfl⟩ ?_
    · exact .inr ⟨x.ts, _, by rw [← GateShape.vs_ts], rfl, sees_posL _ _ (pos_shape x)⟩
    simp -implicitDefEqProofs only [hone, one_cells hone, S0, S1, S2, S3, S4, S5, S6, S7, S8, S9, S10, S11, S12, S13, S14, S15, S16, S17, opv, opvs, eget, env0, setD, lenStr, lenSl, isNilP, isNilS, putAt, if_true, if_false, reduceCtorEq, Nat.reduceLeDiff, Nat.reduceEqDiff, Nat.reduceSub, Nat.reduceMul, Nat.reduceAdd]
    rcases hs : shapeG (hasW (kindsOf l)) x with _ | _
    · have hno := all_not (l := l) (p := shapeG (hasW (kindsOf l))) hx hs
      simp -implicitDefEqProofs only [cond_t, cond_f, Bool.not_false, S0, S1, S2, S3, S4, S5, S6, S7, S8, S9, S10, S11, S12, S13, S14, S15, S16, S17, opv, opvs, eget, env0, setD, lenStr, lenSl, isNilP, isNilS, putAt, if_true, if_false, reduceCtorEq, Nat.reduceLeDiff, Nat.reduceEqDiff, Nat.reduceSub, Nat.reduceMul, Nat.reduceAdd]
      exact finS (kp_app2 hkp2) (by simp; omega) (tb (by rw [hr, hno])) rfl
    · simp -implicitDefEqProofs only [cond_t, cond_f, Bool.not_true, more, S0, S1, S2, S3, S4, S5, S6, S7, S8, S9, S10, S11, S12, S13, S14, S15, S16, S17, opv, opvs, eget, env0, setD, lenStr, lenSl, isNilP, isNilS, putAt, if_true, if_false, reduceCtorEq, Nat.reduceLeDiff, Nat.reduceEqDiff, Nat.reduceSub, Nat.reduceMul, Nat.reduceAdd]
      refine lk_g ⟨k + 1, _⟩ (by simp only; omega) ⟨by simp only; omega, all_step hx hall hs, hpre.trans (List.prefix_append _ _)⟩ (by simp; omega) rfl rfl
  · replace hall := all_len hall (end_of h1 hk)
    simp -implicitDefEqProofs only [S0, S1, S2, S3, S4, S5, S6, S7, S8, S9, S10, S11, S12, S13, S14, S15, S16, S17, opv, opvs, eget, env0, setD, lenStr, lenSl, isNilP, isNilS, putAt, if_true, if_false, reduceCtorEq, Nat.reduceLeDiff, Nat.reduceEqDiff, Nat.reduceSub, Nat.reduceMul, Nat.reduceAdd]
    exact finS hkp2 hbl2 (tb (by rw [hr, hall])) rfl

end Go.Proofs.Ytcjchimenfadkaa.W

end
