/- Shapes that are ok have kinds and fields of different names; what mends read are fields; the two ways to a row agree. Conditions: none. -/
/- Which mends of shapes are ok. Conditions: none. -/
import Derived.Test.YtcjchimenfadkaaGateMnd4
import Derived.Test.YtcjchimenfadkaaGateMnd6
set_option linter.unusedSimpArgs false
set_option linter.unusedVariables false
set_option linter.defProp false

section
open Go Go.Ab
namespace Go.Proofs.Ytcjchimenfadkaa.W
theorem kinds_asc {l : List GateShape} (h : shapesG l = true) : ∀ (d i : Nat) (s t : GateShape), l[i]? = some s → l[i + d + 1]? = some t → Op.bytesLess s.Kind t.Kind = true := by
  simp only [shapesG, Bool.and_eq_true] at h
  have hz := all_zip.1 h.2
  intro d
  induction d with
  | zero =>
    intro i s t hs ht
    have := hz (i + 1) t (by simpa using ht)
    simp only [shapeP, Bool.and_eq_true] at this
    have h2 := this.1.2
    rw [prevK, Nat.add_sub_cancel, hs] at h2
    simpa using h2
  | succ d ih =>
    intro i s t hs ht
    have hi : i + d + 1 < l.length := by
      have := (List.getElem?_eq_some_iff.1 ht).1
      omega
    obtain ⟨u, hu⟩ : ∃ u, l[i + d + 1]? = some u := ⟨_, List.getElem?_eq_getElem hi⟩
    have h1 := ih i s u hs hu
    have := hz (i + (d + 1) + 1) t ht
    simp only [shapeP, Bool.and_eq_true] at this
    have h2 := this.1.2
    rw [prevK, Nat.add_sub_cancel, show i + (d + 1) = i + d + 1 by omega, hu] at h2
    exact less_trans h1 (by simpa using h2)
theorem kinds_one {l : List GateShape} (h : shapesG l = true) {s t : GateShape} (hs : s ∈ l) (ht : t ∈ l) (e : s.Kind = t.Kind) : s = t := by
  obtain ⟨i, hi, rfl⟩ := List.getElem_of_mem hs
  obtain ⟨j, hj, rfl⟩ := List.getElem_of_mem ht
  rcases Nat.lt_trichotomy i j with hij | rfl | hij
  · have := kinds_asc h (j - i - 1) i _ _ (List.getElem?_eq_getElem hi) (by rw [show i + (j - i - 1) + 1 = j by omega]; exact List.getElem?_eq_getElem hj)
    rw [e, less_irr] at this
    cases this
  · rfl
  · have := kinds_asc h (i - j - 1) j _ _ (List.getElem?_eq_getElem hj) (by rw [show j + (i - j - 1) + 1 = i by omega]; exact List.getElem?_eq_getElem hi)
    rw [e, less_irr] at this
    cases this
theorem shape_parts {l : List GateShape} (h : shapesG l = true) {s : GateShape} (hs : s ∈ l) : s.Fields.length ≤ 6 ∧ (nmsOf s).Nodup := by
  simp only [shapesG, Bool.and_eq_true] at h
  obtain ⟨i, hi, rfl⟩ := List.getElem_of_mem hs
  have := all_zip.1 h.2 i _ (List.getElem?_eq_getElem hi)
  simp only [shapeP, Bool.and_eq_true, shapeG] at this
  have h6 := this.2.1
  have hf := all_zip.1 this.2.2
  refine ⟨by simp at h6; omega, ?_⟩
  rw [nmsOf, List.nodup_iff_pairwise_ne, List.pairwise_iff_getElem]
  intro a b ha hb hab
  simp only [List.length_map] at ha hb
  simp only [List.getElem_map]
  have := hf b _ (List.getElem?_eq_getElem hb)
  simp only [fieldP, Bool.and_eq_true] at this
  have h3 := this.2
  rw [cnt_all, List.all_eq_true] at h3
  have := h3 l[i].Fields[a] (by
    rw [List.mem_iff_getElem?]
    exact ⟨a, by rw [List.getElem?_take_of_lt hab]; exact List.getElem?_eq_getElem ha⟩)
  simpa [sameN] using this
theorem plain_in {s : GateShape} {n : List UInt8} (h : plainG s.Fields n = true) : n ∈ nmsOf s := by
  rw [plainG] at h
  split at h
  · rename_i f hf
    have h1 := List.find?_some hf
    have h2 := List.mem_of_find?_eq_some hf
    exact List.mem_map.2 ⟨f, h2, by simpa [isF] using h1⟩
  · cases h
theorem reads_in {l : List GateShape} {ms : List GateMend} (h : shapesG l = true) (hm : ms.all (mendS l) = true) {s : GateShape} (hs : s ∈ l) : ∀ x ∈ nmsOf s, ∀ y ∈ readsOf s.Kind ms x, y ∈ nmsOf s := by
  intro x hx y hy
  obtain ⟨m, hmm, hq⟩ := List.mem_flatMap.1 hy
  clear hy
  have h1 := List.all_eq_true.1 hm m hmm
  rw [rd1] at hq
  split at hq
  · rename_i hc
    simp only [Bool.and_eq_true, beq_iff_eq] at hc
    rw [mendS] at h1
    split at h1
    · rename_i t ht
      have ht2 := List.mem_of_find?_eq_some ht
      have ht1 : t.Kind = m.Kind := by simpa [isK] using List.find?_some ht
      obtain rfl := kinds_one h ht2 hs (ht1.trans hc.1)
      simp only [mendB, Bool.and_eq_true] at h1
      obtain ⟨⟨⟨⟨_, hw⟩, hf⟩, _⟩, _⟩ := h1
      rcases List.mem_append.1 hq with hq | hq
      · split at hq
        · cases hq
        · rename_i hn
          obtain rfl : y = m.When := by simpa using hq
          refine plain_in ?_
          simpa [hn] using hw
      · split at hq
        · cases hq
        · rename_i hn
          obtain rfl : y = m.From := by simpa using hq
          refine plain_in ?_
          simpa [hn] using hf
    · cases h1
  · cases hq
def rowB (ms : List GateMend) (s : GateShape) : Bool := !!(((rowR (nmsOf s) (rdyF s.Kind ms) (nmsOf s).length []).length : Int) == (s.Fields.length : Int))
def srchB (ms : List GateMend) (s : GateShape) : Bool := (dfsL (dfs (readsOf s.Kind ms) ((nmsOf s).length + 1)) (nmsOf s) fun _ => 0).1
theorem rowB_eq {l : List GateShape} {ms : List GateMend} (h : shapesG l = true) (hm : ms.all (mendS l) = true) {s : GateShape} (hs : s ∈ l) : rowB ms s = srchB ms s := by
  have := rows_agree (rds := readsOf s.Kind ms) (names := nmsOf s) (rdy := rdyF s.Kind ms) (fun f row => rdy_iff) (reads_in h hm hs) (shape_parts h hs).2
  rw [Bool.eq_iff_iff, srchB, ← this, rowB, Bool.not_not, beq_iff_eq]
  have hnl : (nmsOf s).length = s.Fields.length := by rw [nmsOf, List.length_map]
  rw [← hnl]
  omega
def mendsG (l : List GateShape) (ms : List GateMend) : Bool := shapesG l && decide ((ms.length : Int) ≤ 12) && ms.all (mendS l) && l.all (rowB ms)
theorem all_rows {l : List GateShape} {ms : List GateMend} (h : shapesG l = true) (hm : ms.all (mendS l) = true) : l.all (srchB ms) = l.all (rowB ms) := by
  rw [Bool.eq_iff_iff, List.all_eq_true, List.all_eq_true]
  exact ⟨fun k s hs => by rw [rowB_eq h hm hs]; exact k s hs, fun k s hs => by rw [← rowB_eq h hm hs]; exact k s hs⟩
end Go.Proofs.Ytcjchimenfadkaa.W

end


section
open Go Go.Ab
set_option maxHeartbeats 2000000
namespace Go.Proofs.Ytcjchimenfadkaa.W
theorem neg1 : decide ((-1 : Int) < 0) = true := rfl
theorem nn0 (j : Nat) : decide (((j : Nat) : Int) < 0) = false := by simp
theorem mends_12 {l : List GateShape} {ms : List GateMend} (h : shapesG l = true) (h2 : decide ((ms.length : Int) ≤ 12) = true) : mendsG l ms = (ms.all (mendS l) && l.all (rowB ms)) := by rw [mendsG, h, h2]; rfl
theorem mends_n1 {l : List GateShape} {ms : List GateMend} (h : shapesG l = false) : mendsG l ms = false := by rw [mendsG, h]; rfl
theorem mends_n2 {l : List GateShape} {ms : List GateMend} (h2 : decide ((ms.length : Int) ≤ 12) = false) : mendsG l ms = false := by rw [mendsG, h2, Bool.and_false]; rfl

def c_spec_GateMendsOk : C := (.seq (.ops [⟨(some 4), none, (.mv (.c (.t (.bool false))))⟩]) (.seq (.seq (.ops [⟨(some 7), none, (.mv (.t 0))⟩, ⟨(some 8), none, (.call (.c (.fn (.func 14) [])) [(.t 7)])⟩, ⟨(some 9), none, (.un .not (.t 8))⟩, ⟨(some 10), none, (.mv (.t 9))⟩, ⟨(some 11), (some ⟨10, false⟩), (.mv (.t 1))⟩, ⟨(some 12), (some ⟨10, false⟩), (.len false (.t 11))⟩, ⟨(some 13), (some ⟨10, false⟩), (.bin .gtr (.t 12) (.c (.t (.int .i64 12))))⟩, ⟨(some 14), none, (.pick (.t 10) (.c (.t (.bool true))) (.t 13))⟩]) (.cond (.t 14) (.seq (.ops [⟨(some 4), none, (.mv (.c (.t (.bool false))))⟩]) .ret) .skip)) (.seq (.seq (.ops [⟨(some 5), none, (.mv (.c (.t (.int .i64 0))))⟩]) (.block 0 (.loop (.seq (.seq (.ops [⟨(some 15), none, (.mv (.t 5))⟩, ⟨(some 16), none, (.mv (.t 1))⟩, ⟨(some 17), none, (.len false (.t 16))⟩, ⟨(some 18), none, (.bin .lss (.t 15) (.t 17))⟩]) (.cond (.t 18) .skip (.exit 0))) (.seq (.block 1 (.seq (.ops [⟨(some 21), none, (.mv (.t 0))⟩, ⟨(some 22), none, (.mv (.t 1))⟩, ⟨(some 23), none, (.mv (.t 5))⟩, ⟨(some 24), none, (.indexAddr 6 (.t 22) (.t 23))⟩, ⟨(some 25), none, (.load (some 6) (.t 24))⟩, ⟨(some 26), none, (.call (.c (.fn (.func 15) [])) [(.t 21), (.t 25)])⟩, ⟨(some 27), none, (.un .not (.t 26))⟩]) (.cond (.t 27) (.seq (.ops [⟨(some 4), none, (.mv (.c (.t (.bool false))))⟩]) .ret) .skip))) (.ops [⟨(some 19), none, (.mv (.t 5))⟩, ⟨(some 20), none, (.bin .add (.t 19) (.c (.t (.int .i64 1))))⟩, ⟨(some 5), none, (.mv (.t 20))⟩])))))) (.seq (.seq (.ops [⟨(some 6), none, (.mv (.c (.t (.int .i64 0))))⟩]) (.block 2 (.loop (.seq (.seq (.ops [⟨(some 28), none, (.mv (.t 6))⟩, ⟨(some 29), none, (.mv (.t 0))⟩, ⟨(some 30), none, (.len false (.t 29))⟩, ⟨(some 31), none, (.bin .lss (.t 28) (.t 30))⟩]) (.cond (.t 31) .skip (.exit 2))) (.seq (.block 3 (.seq (.drawn [(.mk 0 false ⟨(some 34), none, (.mv (.t 0))⟩ []), (.mk 1 false ⟨(some 35), none, (.mv (.t 6))⟩ []), (.mk 2 false ⟨(some 36), none, (.indexAddr 2 (.t 34) (.t 35))⟩ []), (.mk 3 false ⟨(some 37), none, (.load (some 2) (.t 36))⟩ []), (.mk 4 false ⟨(some 38), none, (.mv (.t 1))⟩ []), (.mk 7 false ⟨(some 41), none, (.mv (.t 0))⟩ []), (.mk 8 false ⟨(some 42), none, (.mv (.t 6))⟩ []), (.mk 9 false ⟨(some 43), none, (.indexAddr 2 (.t 41) (.t 42))⟩ []), (.mk 10 false ⟨(some 44), none, (.fieldAddr 1 (.t 43))⟩ []), (.mk 11 false ⟨(some 45), none, (.load none (.t 44))⟩ []), (.mk 12 false ⟨(some 46), none, (.len false (.t 45))⟩ []), (.mk 5 true ⟨(some 39), none, (.call (.c (.fn (.func 16) [])) [(.t 37), (.t 38)])⟩ [⟨(some 43), none, (.indexAddr 2 (.t 41) (.t 42))⟩, ⟨(some 45), none, (.load none (.t 44))⟩]), (.mk 6 false ⟨(some 40), none, (.len false (.t 39))⟩ []), (.mk 13 false ⟨(some 47), none, (.bin .neq (.t 40) (.t 46))⟩ [])]) (.cond (.t 47) (.seq (.ops [⟨(some 4), none, (.mv (.c (.t (.bool false))))⟩]) .ret) .skip))) (.ops [⟨(some 32), none, (.mv (.t 6))⟩, ⟨(some 33), none, (.bin .add (.t 32) (.c (.t (.int .i64 1))))⟩, ⟨(some 6), none, (.mv (.t 33))⟩])))))) (.seq (.ops [⟨(some 4), none, (.mv (.c (.t (.bool true))))⟩]) .ret)))))
theorem k_spec_GateMendsOk : comp Try.prog 48 (Try.f6.body.getD .skip) = some c_spec_GateMendsOk := by kernel_rfl

theorem spec_GateMendsOk (l : List GateShape) (hl : GateShape.OkS l) (ms : List GateMend) (hm : GateMend.OkS ms)  (σ : Store) : ACalls Try.prog 6 [.t (tGateShapeS l), .t (tGateMendS ms)] σ fun rr σ' => rr = .t (.bool (mendsG l ms)) ∧ σ' = σ := by
  refine acalls_of Try.func6 (by decide +kernel) (code := Try.f6.body.getD .skip) (n := 48) (c := c_spec_GateMendsOk) (rs := [(.tmp 4)]) rfl rfl k_spec_GateMendsOk (by kernel_rfl) (by simp) (fun hσ => ?_)
  have hh : True := trivial
  have fin : ∀ {u : V} {τ : Store}, u = .t (.bool (mendsG l ms)) → u.lt σ.length = true → retV σ.length (fun rr σ' => rr = .t (.bool (mendsG l ms)) ∧ σ' = σ) (σ ++ τ) (some [u]) := fun h h2 => ret_same rfl hσ h2 ⟨h, rfl⟩
  have fin0 : ∀ {u : V}, u = .t (.bool (mendsG l ms)) → retV σ.length (fun rr σ' => rr = .t (.bool (mendsG l ms)) ∧ σ' = σ) σ (some [u]) := fun h => ret_same0 rfl ⟨h, rfl⟩
  have y1 := hl.1
  have y2 := hm.1
  simp -implicitDefEqProofs only [c_spec_GateMendsOk, List.length_map, S0, S1, S2, S3, S4, S5, S6, S7, S8, S9, S10, S11, S12, S13, S14, S15, S16, S17, opv, opvs, eget, env0, setD, lenStr, lenSl, isNilP, isNilS, putAt, if_true, if_false, reduceCtorEq, Nat.reduceLeDiff, Nat.reduceEqDiff, Nat.reduceSub, Nat.reduceMul, Nat.reduceAdd]
  refine call_pure (spec_GateShapesOk l hl _) ?_
  rcases hsh : shapesG l with _ | _
  · simp -implicitDefEqProofs only [Bool.not_false, Bool.not_true, cond_t, cond_f, S0, S1, S2, S3, S4, S5, S6, S7, S8, S9, S10, S11, S12, S13, S14, S15, S16, S17, opv, opvs, eget, env0, setD, lenStr, lenSl, isNilP, isNilS, putAt, if_true, if_false, reduceCtorEq, Nat.reduceLeDiff, Nat.reduceEqDiff, Nat.reduceSub, Nat.reduceMul, Nat.reduceAdd]
    first | exact fin0 (tb (mends_n1 hsh).symm) | exact fin (tb (mends_n1 hsh).symm) rfl
  simp -implicitDefEqProofs only [Bool.not_false, Bool.not_true, cond_t, cond_f, List.length_map, S0, S1, S2, S3, S4, S5, S6, S7, S8, S9, S10, S11, S12, S13, S14, S15, S16, S17, opv, opvs, eget, env0, setD, lenStr, lenSl, isNilP, isNilS, putAt, if_true, if_false, reduceCtorEq, Nat.reduceLeDiff, Nat.reduceEqDiff, Nat.reduceSub, Nat.reduceMul, Nat.reduceAdd]
  refine cond_split (fun h12 => ?_) (fun h12 => ?_)
  · have e12 : decide ((ms.length : Int) ≤ 12) = false := by simp at h12 ⊢; omega
    simp -implicitDefEqProofs only [S0, S1, S2, S3, S4, S5, S6, S7, S8, S9, S10, S11, S12, S13, S14, S15, S16, S17, opv, opvs, eget, env0, setD, lenStr, lenSl, isNilP, isNilS, putAt, if_true, if_false, reduceCtorEq, Nat.reduceLeDiff, Nat.reduceEqDiff, Nat.reduceSub, Nat.reduceMul, Nat.reduceAdd]
    first | exact fin0 (tb (mends_n2 e12).symm) | exact fin (tb (mends_n2 e12).symm) rfl
  have e12 : decide ((ms.length : Int) ≤ 12) = true := by simp at h12 ⊢; omega
  have m12 : ms.length ≤ 12 := by simp at e12; omega
  clear h12
  have hM := mends_12 hsh e12
  simp -implicitDefEqProofs only [List.length_map, S0, S1, S2, S3, S4, S5, S6, S7, S8, S9, S10, S11, S12, S13, S14, S15, S16, S17, opv, opvs, eget, env0, setD, lenStr, lenSl, isNilP, isNilS, putAt, if_true, if_false, reduceCtorEq, Nat.reduceLeDiff, Nat.reduceEqDiff, Nat.reduceSub, Nat.reduceMul, Nat.reduceAdd]
  refine loop_p [5, 0, 1] [0, 1] (fun k : Nat => [(5, .t (.int .i64 (k : Nat)))]) (fun k => k ≤ (ms).length ∧ ((ms).take k).all (mendS l) = true) (fun k => (ms).length - k) 0 (by simp) ⟨Nat.zero_le _, rfl⟩ rfl ?_
  rintro k ⟨hk, hall⟩
  simp -implicitDefEqProofs only [keep, List.length_map, S0, S1, S2, S3, S4, S5, S6, S7, S8, S9, S10, S11, S12, S13, S14, S15, S16, S17, opv, opvs, eget, env0, setD, lenStr, lenSl, isNilP, isNilS, putAt, if_true, if_false, reduceCtorEq, Nat.reduceLeDiff, Nat.reduceEqDiff, Nat.reduceSub, Nat.reduceMul, Nat.reduceAdd]
  refine cond_split (fun h1 => ?_) (fun h1 => ?_)
  · obtain ⟨x, hx, hlt⟩ := at_of h1
    clear h1 hh
    have hh : True := trivial
    simp -implicitDefEqProofs only [hx, nat_nn, Nat.zero_le, List.getElem?_map, Option.map_some, GateMend.ts, GateMend.vs, List.length_map, i64_succ (show k < 4611686018427387904 by omega), S0, S1, S2, S3, S4, S5, S6, S7, S8, S9, S10, S11, S12, S13, S14, S15, S16, S17, opv, opvs, eget, env0, setD, lenStr, lenSl, isNilP, isNilS, putAt, if_true, if_false, reduceCtorEq, Nat.reduceLeDiff, Nat.reduceEqDiff, Nat.reduceSub, Nat.reduceMul, Nat.reduceAdd]
    repeat' (first
    | ((with_reducible refine cond_known (fun h => ?_) (fun h => ?_)) <;> (replace hh := And.intro h hh; clear h; simp -implicitDefEqProofs only [hh, cond_t, cond_f, hx, nat_nn, Nat.zero_le, List.getElem?_map, Option.map_some, GateMend.ts, GateMend.vs, List.length_map, i64_succ (show k < 4611686018427387904 by omega), S0, S1, S2, S3, S4, S5, S6, S7, S8, S9, S10, S11, S12, S13, S14, S15, S16, S17, opv, opvs, eget, env0, setD, lenStr, lenSl, isNilP, isNilS, putAt, if_true, if_false, reduceCtorEq, Nat.reduceLeDiff, Nat.reduceEqDiff, Nat.reduceSub, Nat.reduceMul, Nat.reduceAdd]))
    | ((with_reducible refine call_pure (spec_l3MendOk l hl x (hm.2 x (mem_at hx)) _) ?_); simp -implicitDefEqProofs only [hh, cond_t, cond_f, hx, nat_nn, Nat.zero_le, List.getElem?_map, Option.map_some, GateMend.ts, GateMend.vs, List.length_map, i64_succ (show k < 4611686018427387904 by omega), S0, S1, S2, S3, S4, S5, S6, S7, S8, S9, S10, S11, S12, S13, S14, S15, S16, S17, opv, opvs, eget, env0, setD, lenStr, lenSl, isNilP, isNilS, putAt, if_true, if_false, reduceCtorEq, Nat.reduceLeDiff, Nat.reduceEqDiff, Nat.reduceSub, Nat.reduceMul, Nat.reduceAdd])
    | (first | ((with_reducible refine fin0 ?_); refine tb ?_; (try simp only [Known] at hh); have hno := all_not (l := (ms)) (p := (mendS l)) hx; rw [hM, hno (by grind)]; rfl) | ((with_reducible refine fin ?_ ?_); rotate_left; exact rfl; refine tb ?_; (try simp only [Known] at hh); have hno := all_not (l := (ms)) (p := (mendS l)) hx; rw [hM, hno (by grind)]; rfl) | (refine lk_p0 (k + 1) (by simp) (by simp) (by omega) ⟨by omega, all_step hx hall ?_⟩ rfl; (try simp only [Known] at hh); grind) | (refine lk_p (k + 1) (by simp) (by simp) hσ rfl (by omega) ⟨by omega, all_step hx hall ?_⟩ rfl rfl; (try simp only [Known] at hh); grind) | (refine lk_pm (k + 1) (Nat.le_refl _) (by simp) hσ rfl rfl (by omega) ⟨by omega, all_step hx hall ?_⟩ (by simp [ltE, keep, eget, V.lt]) rfl; (try simp only [Known] at hh); grind)))
  replace hall := all_len hall ((end_of h1 hk).trans (by rfl))
  clear h1 hk
  simp -implicitDefEqProofs only [S0, S1, S2, S3, S4, S5, S6, S7, S8, S9, S10, S11, S12, S13, S14, S15, S16, S17, opv, opvs, eget, env0, setD, lenStr, lenSl, isNilP, isNilS, putAt, if_true, if_false, reduceCtorEq, Nat.reduceLeDiff, Nat.reduceEqDiff, Nat.reduceSub, Nat.reduceMul, Nat.reduceAdd]
  have hall1 := hall
  clear hall
  refine loop_p [6, 0, 1] [0, 1] (fun k : Nat => [(6, .t (.int .i64 (k : Nat)))]) (fun k => k ≤ (l).length ∧ ((l).take k).all (rowB ms) = true) (fun k => (l).length - k) 0 (by simp) ⟨Nat.zero_le _, rfl⟩ rfl ?_
  rintro k ⟨hk, hall⟩
  simp -implicitDefEqProofs only [keep, List.length_map, S0, S1, S2, S3, S4, S5, S6, S7, S8, S9, S10, S11, S12, S13, S14, S15, S16, S17, opv, opvs, eget, env0, setD, lenStr, lenSl, isNilP, isNilS, putAt, if_true, if_false, reduceCtorEq, Nat.reduceLeDiff, Nat.reduceEqDiff, Nat.reduceSub, Nat.reduceMul, Nat.reduceAdd]
  refine cond_split (fun h1 => ?_) (fun h1 => ?_)
  · obtain ⟨x, hx, hlt⟩ := at_of h1
    clear h1 hh
    have hh : True := trivial
    simp -implicitDefEqProofs only [hx, nat_nn, Nat.zero_le, List.getElem?_map, Option.map_some, GateShape.ts, GateShape.vs, List.length_map, true_and, i64_succ (show k < 4611686018427387904 by omega), S0, S1, S2, S3, S4, S5, S6, S7, S8, S9, S10, S11, S12, S13, S14, S15, S16, S17, opv, opvs, eget, env0, setD, lenStr, lenSl, isNilP, isNilS, putAt, if_true, if_false, reduceCtorEq, Nat.reduceLeDiff, Nat.reduceEqDiff, Nat.reduceSub, Nat.reduceMul, Nat.reduceAdd]
    repeat' (first
    | ((with_reducible refine cond_known (fun h => ?_) (fun h => ?_)) <;> (replace hh := And.intro h hh; clear h; simp -implicitDefEqProofs only [hh, cond_t, cond_f, hx, nat_nn, Nat.zero_le, List.getElem?_map, Option.map_some, GateShape.ts, GateShape.vs, List.length_map, true_and, i64_succ (show k < 4611686018427387904 by omega), S0, S1, S2, S3, S4, S5, S6, S7, S8, S9, S10, S11, S12, S13, S14, S15, S16, S17, opv, opvs, eget, env0, setD, lenStr, lenSl, isNilP, isNilS, putAt, if_true, if_false, reduceCtorEq, Nat.reduceLeDiff, Nat.reduceEqDiff, Nat.reduceSub, Nat.reduceMul, Nat.reduceAdd]))
    | ((with_reducible refine call_pure (spec_l3Row x (shape_parts hsh (mem_at hx)).1 ms m12 _) ?_); simp -implicitDefEqProofs only [hh, cond_t, cond_f, hx, nat_nn, Nat.zero_le, List.getElem?_map, Option.map_some, GateShape.ts, GateShape.vs, List.length_map, true_and, i64_succ (show k < 4611686018427387904 by omega), S0, S1, S2, S3, S4, S5, S6, S7, S8, S9, S10, S11, S12, S13, S14, S15, S16, S17, opv, opvs, eget, env0, setD, lenStr, lenSl, isNilP, isNilS, putAt, if_true, if_false, reduceCtorEq, Nat.reduceLeDiff, Nat.reduceEqDiff, Nat.reduceSub, Nat.reduceMul, Nat.reduceAdd])
    | ((with_reducible refine And.intro (.inl ⟨[], (List.append_nil _).symm⟩) ?_); simp -implicitDefEqProofs only [hh, cond_t, cond_f, hx, nat_nn, Nat.zero_le, List.getElem?_map, Option.map_some, GateShape.ts, GateShape.vs, List.length_map, true_and, i64_succ (show k < 4611686018427387904 by omega), S0, S1, S2, S3, S4, S5, S6, S7, S8, S9, S10, S11, S12, S13, S14, S15, S16, S17, opv, opvs, eget, env0, setD, lenStr, lenSl, isNilP, isNilS, putAt, if_true, if_false, reduceCtorEq, Nat.reduceLeDiff, Nat.reduceEqDiff, Nat.reduceSub, Nat.reduceMul, Nat.reduceAdd])
    | (first | ((with_reducible refine fin0 ?_); refine tb ?_; (try simp only [Known] at hh); have hno := all_not (l := (l)) (p := (rowB ms)) hx; rw [hM, hall1, hno (by grind [rowB])]; rfl) | ((with_reducible refine fin ?_ ?_); rotate_left; exact rfl; refine tb ?_; (try simp only [Known] at hh); have hno := all_not (l := (l)) (p := (rowB ms)) hx; rw [hM, hall1, hno (by grind [rowB])]; rfl) | (refine lk_p0 (k + 1) (by simp) (by simp) (by omega) ⟨by omega, all_step hx hall ?_⟩ rfl; (try simp only [Known] at hh); grind [rowB]) | (refine lk_p (k + 1) (by simp) (by simp) hσ rfl (by omega) ⟨by omega, all_step hx hall ?_⟩ rfl rfl; (try simp only [Known] at hh); grind [rowB]) | (refine lk_pm (k + 1) (Nat.le_refl _) (by simp) hσ rfl rfl (by omega) ⟨by omega, all_step hx hall ?_⟩ (by simp [ltE, keep, eget, V.lt]) rfl; (try simp only [Known] at hh); grind [rowB])))
  replace hall := all_len hall ((end_of h1 hk).trans (by rfl))
  clear h1 hk
  simp -implicitDefEqProofs only [S0, S1, S2, S3, S4, S5, S6, S7, S8, S9, S10, S11, S12, S13, S14, S15, S16, S17, opv, opvs, eget, env0, setD, lenStr, lenSl, isNilP, isNilS, putAt, if_true, if_false, reduceCtorEq, Nat.reduceLeDiff, Nat.reduceEqDiff, Nat.reduceSub, Nat.reduceMul, Nat.reduceAdd]
  (first | ((with_reducible refine fin0 ?_); refine tb ?_; (try simp only [Known] at hh); rw [hM, hall1, hall]; rfl) | ((with_reducible refine fin ?_ ?_); rotate_left; exact rfl; refine tb ?_; (try simp only [Known] at hh); rw [hM, hall1, hall]; rfl))
def c_impl_GateMendsOk : C := (.seq (.ops [⟨(some 4), none, (.mv (.c (.t (.bool false))))⟩]) (.seq (.seq (.ops [⟨(some 12), none, (.mv (.t 0))⟩, ⟨(some 13), none, (.call (.c (.fn (.func 19) [])) [(.t 12)])⟩, ⟨(some 14), none, (.un .not (.t 13))⟩, ⟨(some 15), none, (.mv (.t 14))⟩, ⟨(some 16), (some ⟨15, false⟩), (.mv (.t 1))⟩, ⟨(some 17), (some ⟨15, false⟩), (.len false (.t 16))⟩, ⟨(some 18), (some ⟨15, false⟩), (.bin .gtr (.t 17) (.c (.t (.int .i64 12))))⟩, ⟨(some 19), none, (.pick (.t 15) (.c (.t (.bool true))) (.t 18))⟩]) (.cond (.t 19) (.seq (.ops [⟨(some 4), none, (.mv (.c (.t (.bool false))))⟩]) .ret) .skip)) (.seq (.seq (.ops [⟨(some 20), none, (.mv (.t 1))⟩, ⟨(some 21), none, (.len false (.t 20))⟩, ⟨(some 22), none, (.mv (.c (.t (.int .i64 0))))⟩]) (.block 0 (.loop (.seq (.ops [⟨(some 23), none, (.bin .lss (.t 22) (.t 21))⟩]) (.seq (.cond (.t 23) .skip (.exit 0)) (.seq (.block 1 (.seq (.ops [⟨(some 24), none, (.indexAddr 6 (.t 20) (.t 22))⟩, ⟨(some 25), none, (.load (some 6) (.t 24))⟩, ⟨(some 6), none, (.new [(.t (.str [])), (.t (.str [])), (.t (.str [])), (.t (.str [])), (.t (.str [])), (.t (.str []))])⟩, ⟨none, none, (.store 6 (.t 6) (.t 25))⟩]) (.seq (.ops [⟨(some 26), none, (.mv (.t 0))⟩, ⟨(some 27), none, (.fieldAddr 0 (.t 6))⟩, ⟨(some 28), none, (.load none (.t 27))⟩, ⟨(some 29), none, (.call (.c (.fn (.func 20) [])) [(.t 26), (.t 28)])⟩, ⟨(some 7), none, (.mv (.t 29))⟩]) (.seq (.drawn [(.mk 0 false ⟨(some 30), none, (.mv (.t 7))⟩ []), (.mk 1 false ⟨(some 31), none, (.bin .lss (.t 30) (.c (.t (.int .i64 0))))⟩ []), (.mk 2 false ⟨(some 32), none, (.mv (.t 31))⟩ []), (.mk 3 false ⟨(some 33), (some ⟨32, false⟩), (.mv (.t 0))⟩ []), (.mk 4 false ⟨(some 34), (some ⟨32, false⟩), (.mv (.t 7))⟩ []), (.mk 5 false ⟨(some 35), (some ⟨32, false⟩), (.indexAddr 2 (.t 33) (.t 34))⟩ []), (.mk 6 false ⟨(some 36), (some ⟨32, false⟩), (.fieldAddr 1 (.t 35))⟩ []), (.mk 7 false ⟨(some 37), (some ⟨32, false⟩), (.load none (.t 36))⟩ []), (.mk 8 false ⟨(some 38), (some ⟨32, false⟩), (.load (some 6) (.t 6))⟩ []), (.mk 9 false ⟨(some 39), (some ⟨32, false⟩), (.call (.c (.fn (.func 21) [])) [(.t 37), (.t 38)])⟩ []), (.mk 10 false ⟨(some 40), (some ⟨32, false⟩), (.un .not (.t 39))⟩ []), (.mk 11 false ⟨(some 41), none, (.pick (.t 32) (.c (.t (.bool true))) (.t 40))⟩ [])]) (.cond (.t 41) (.seq (.ops [⟨(some 4), none, (.mv (.c (.t (.bool false))))⟩]) .ret) .skip))))) (.ops [⟨(some 42), none, (.bin .add (.t 22) (.c (.t (.int .i64 1))))⟩, ⟨(some 22), none, (.mv (.t 42))⟩]))))))) (.seq (.seq (.ops [⟨(some 43), none, (.mv (.t 0))⟩, ⟨(some 44), none, (.len false (.t 43))⟩, ⟨(some 45), none, (.mv (.c (.t (.int .i64 0))))⟩]) (.block 2 (.loop (.seq (.ops [⟨(some 46), none, (.bin .lss (.t 45) (.t 44))⟩]) (.seq (.cond (.t 46) .skip (.exit 2)) (.seq (.block 3 (.seq (.ops [⟨(some 47), none, (.indexAddr 2 (.t 43) (.t 45))⟩, ⟨(some 48), none, (.load (some 2) (.t 47))⟩, ⟨(some 9), none, (.new [(.t (.str [])), .nils])⟩, ⟨none, none, (.store 2 (.t 9) (.t 48))⟩]) (.seq (.ops [⟨(some 50), none, (.load (some 2) (.t 9))⟩, ⟨(some 51), none, (.mv (.t 1))⟩, ⟨(some 52), none, (.call (.c (.fn (.func 22) [])) [(.t 50), (.t 51)])⟩, ⟨(some 49), none, (.mv (.t 52))⟩, ⟨(some 53), none, (.extract (.t 49) 0)⟩, ⟨(some 54), none, (.extract (.t 49) 1)⟩, ⟨(some 10), none, (.mv (.t 53))⟩, ⟨(some 11), none, (.mv (.t 54))⟩]) (.seq (.ops [⟨(some 55), none, (.mv (.t 11))⟩, ⟨(some 56), none, (.un .not (.t 55))⟩]) (.cond (.t 56) (.seq (.ops [⟨(some 4), none, (.mv (.c (.t (.bool false))))⟩]) .ret) .skip))))) (.ops [⟨(some 57), none, (.bin .add (.t 45) (.c (.t (.int .i64 1))))⟩, ⟨(some 45), none, (.mv (.t 57))⟩]))))))) (.seq (.ops [⟨(some 4), none, (.mv (.c (.t (.bool true))))⟩]) .ret)))))
theorem k_impl_GateMendsOk : comp Try.prog 58 (Try.f9.body.getD .skip) = some c_impl_GateMendsOk := by kernel_rfl

theorem impl_GateMendsOk (l : List GateShape) (hl : GateShape.OkS l) (ms : List GateMend) (hm : GateMend.OkS ms)  (σ : Store) : ACalls Try.prog 9 [.t (tGateShapeS l), .t (tGateMendS ms)] σ fun rr σ' => rr = .t (.bool (mendsG l ms)) ∧ σ' = σ := by
  refine acalls_of Try.func9 (by decide +kernel) (code := Try.f9.body.getD .skip) (n := 58) (c := c_impl_GateMendsOk) (rs := [(.tmp 4)]) rfl rfl k_impl_GateMendsOk (by kernel_rfl) (by simp) (fun hσ => ?_)
  have hh : True := trivial
  have fin : ∀ {u : V} {τ : Store}, u = .t (.bool (mendsG l ms)) → u.lt σ.length = true → retV σ.length (fun rr σ' => rr = .t (.bool (mendsG l ms)) ∧ σ' = σ) (σ ++ τ) (some [u]) := fun h h2 => ret_same rfl hσ h2 ⟨h, rfl⟩
  have fin0 : ∀ {u : V}, u = .t (.bool (mendsG l ms)) → retV σ.length (fun rr σ' => rr = .t (.bool (mendsG l ms)) ∧ σ' = σ) σ (some [u]) := fun h => ret_same0 rfl ⟨h, rfl⟩
  have y1 := hl.1
  have y2 := hm.1
  simp -implicitDefEqProofs only [c_impl_GateMendsOk, List.length_map, S0, S1, S2, S3, S4, S5, S6, S7, S8, S9, S10, S11, S12, S13, S14, S15, S16, S17, opv, opvs, eget, env0, setD, lenStr, lenSl, isNilP, isNilS, putAt, if_true, if_false, reduceCtorEq, Nat.reduceLeDiff, Nat.reduceEqDiff, Nat.reduceSub, Nat.reduceMul, Nat.reduceAdd]
  refine call_pure (impl_GateShapesOk l hl _) ?_
  rcases hsh : shapesG l with _ | _
  · simp -implicitDefEqProofs only [Bool.not_false, Bool.not_true, cond_t, cond_f, S0, S1, S2, S3, S4, S5, S6, S7, S8, S9, S10, S11, S12, S13, S14, S15, S16, S17, opv, opvs, eget, env0, setD, lenStr, lenSl, isNilP, isNilS, putAt, if_true, if_false, reduceCtorEq, Nat.reduceLeDiff, Nat.reduceEqDiff, Nat.reduceSub, Nat.reduceMul, Nat.reduceAdd]
    first | exact fin0 (tb (mends_n1 hsh).symm) | exact fin (tb (mends_n1 hsh).symm) rfl
  simp -implicitDefEqProofs only [Bool.not_false, Bool.not_true, cond_t, cond_f, List.length_map, S0, S1, S2, S3, S4, S5, S6, S7, S8, S9, S10, S11, S12, S13, S14, S15, S16, S17, opv, opvs, eget, env0, setD, lenStr, lenSl, isNilP, isNilS, putAt, if_true, if_false, reduceCtorEq, Nat.reduceLeDiff, Nat.reduceEqDiff, Nat.reduceSub, Nat.reduceMul, Nat.reduceAdd]
  refine cond_split (fun h12 => ?_) (fun h12 => ?_)
  · have e12 : decide ((ms.length : Int) ≤ 12) = false := by simp at h12 ⊢; omega
    simp -implicitDefEqProofs only [S0, S1, S2, S3, S4, S5, S6, S7, S8, S9, S10, S11, S12, S13, S14, S15, S16, S17, opv, opvs, eget, env0, setD, lenStr, lenSl, isNilP, isNilS, putAt, if_true, if_false, reduceCtorEq, Nat.reduceLeDiff, Nat.reduceEqDiff, Nat.reduceSub, Nat.reduceMul, Nat.reduceAdd]
    first | exact fin0 (tb (mends_n2 e12).symm) | exact fin (tb (mends_n2 e12).symm) rfl
  have e12 : decide ((ms.length : Int) ≤ 12) = true := by simp at h12 ⊢; omega
  have m12 : ms.length ≤ 12 := by simp at e12; omega
  clear h12
  have hM := mends_12 hsh e12
  simp -implicitDefEqProofs only [List.length_map, S0, S1, S2, S3, S4, S5, S6, S7, S8, S9, S10, S11, S12, S13, S14, S15, S16, S17, opv, opvs, eget, env0, setD, lenStr, lenSl, isNilP, isNilS, putAt, if_true, if_false, reduceCtorEq, Nat.reduceLeDiff, Nat.reduceEqDiff, Nat.reduceSub, Nat.reduceMul, Nat.reduceAdd]
  refine loop_p [22, 0, 1, 20, 21] [0, 1, 20, 21] (fun k : Nat => [(22, .t (.int .i64 (k : Nat)))]) (fun k => k ≤ (ms).length ∧ ((ms).take k).all (mendS l) = true) (fun k => (ms).length - k) 0 (by simp) ⟨Nat.zero_le _, rfl⟩ rfl ?_
  rintro k ⟨hk, hall⟩
  simp -implicitDefEqProofs only [keep, List.length_map, S0, S1, S2, S3, S4, S5, S6, S7, S8, S9, S10, S11, S12, S13, S14, S15, S16, S17, opv, opvs, eget, env0, setD, lenStr, lenSl, isNilP, isNilS, putAt, if_true, if_false, reduceCtorEq, Nat.reduceLeDiff, Nat.reduceEqDiff, Nat.reduceSub, Nat.reduceMul, Nat.reduceAdd]
  refine cond_split (fun h1 => ?_) (fun h1 => ?_)
  · obtain ⟨x, hx, hlt⟩ := at_of h1
    clear h1 hh
    have hh : True := trivial
    simp -implicitDefEqProofs only [hx, nat_nn, Nat.zero_le, List.getElem?_map, Option.map_some, GateMend.ts, GateMend.vs, List.length_map, i64_succ (show k < 4611686018427387904 by omega), S0, S1, S2, S3, S4, S5, S6, S7, S8, S9, S10, S11, S12, S13, S14, S15, S16, S17, opv, opvs, eget, env0, setD, lenStr, lenSl, isNilP, isNilS, putAt, if_true, if_false, reduceCtorEq, Nat.reduceLeDiff, Nat.reduceEqDiff, Nat.reduceSub, Nat.reduceMul, Nat.reduceAdd]
    repeat' (first
    | ((with_reducible refine cond_known (fun h => ?_) (fun h => ?_)) <;> (replace hh := And.intro h hh; clear h; simp -implicitDefEqProofs only [hh, cond_t, cond_f, hx, nat_nn, Nat.zero_le, List.getElem?_map, Option.map_some, GateMend.ts, GateMend.vs, List.length_map, i64_succ (show k < 4611686018427387904 by omega), S0, S1, S2, S3, S4, S5, S6, S7, S8, S9, S10, S11, S12, S13, S14, S15, S16, S17, opv, opvs, eget, env0, setD, lenStr, lenSl, isNilP, isNilS, putAt, if_true, if_false, reduceCtorEq, Nat.reduceLeDiff, Nat.reduceEqDiff, Nat.reduceSub, Nat.reduceMul, Nat.reduceAdd]))
    | ((with_reducible refine call_pure (impl_shapeOf l y1 x.Kind _) ?_); (rcases find_i (isK x.Kind) l 0 with ⟨e1, e2⟩ | ⟨j, s, eg, e1, e2⟩) <;> first | (have hms := mendS_none e2; rw [e1]; simp -implicitDefEqProofs only [hh, cond_t, cond_f, neg1, hx, nat_nn, Nat.zero_le, List.getElem?_map, Option.map_some, GateMend.ts, GateMend.vs, List.length_map, i64_succ (show k < 4611686018427387904 by omega), S0, S1, S2, S3, S4, S5, S6, S7, S8, S9, S10, S11, S12, S13, S14, S15, S16, S17, opv, opvs, eget, env0, setD, lenStr, lenSl, isNilP, isNilS, putAt, if_true, if_false, reduceCtorEq, Nat.reduceLeDiff, Nat.reduceEqDiff, Nat.reduceSub, Nat.reduceMul, Nat.reduceAdd]) | (have hms := mendS_some e2; rw [Nat.zero_add] at e1; rw [e1]; simp -implicitDefEqProofs only [hh, cond_t, cond_f, nn0, eg, GateShape.ts, hx, nat_nn, Nat.zero_le, List.getElem?_map, Option.map_some, GateMend.ts, GateMend.vs, List.length_map, i64_succ (show k < 4611686018427387904 by omega), S0, S1, S2, S3, S4, S5, S6, S7, S8, S9, S10, S11, S12, S13, S14, S15, S16, S17, opv, opvs, eget, env0, setD, lenStr, lenSl, isNilP, isNilS, putAt, if_true, if_false, reduceCtorEq, Nat.reduceLeDiff, Nat.reduceEqDiff, Nat.reduceSub, Nat.reduceMul, Nat.reduceAdd]))
    | ((with_reducible refine call_pure (impl_mendOk s.Fields (hl.2 s (mem_at eg)).Fields x (hm.2 x (mem_at hx)) _) ?_); simp -implicitDefEqProofs only [hh, cond_t, cond_f, hx, nat_nn, Nat.zero_le, List.getElem?_map, Option.map_some, GateMend.ts, GateMend.vs, List.length_map, i64_succ (show k < 4611686018427387904 by omega), S0, S1, S2, S3, S4, S5, S6, S7, S8, S9, S10, S11, S12, S13, S14, S15, S16, S17, opv, opvs, eget, env0, setD, lenStr, lenSl, isNilP, isNilS, putAt, if_true, if_false, reduceCtorEq, Nat.reduceLeDiff, Nat.reduceEqDiff, Nat.reduceSub, Nat.reduceMul, Nat.reduceAdd])
    | (first | ((with_reducible refine fin0 ?_); refine tb ?_; (try simp only [Known] at hh); have hno := all_not (l := (ms)) (p := (mendS l)) hx; rw [hM, hno (by grind)]; rfl) | ((with_reducible refine fin ?_ ?_); rotate_left; exact rfl; refine tb ?_; (try simp only [Known] at hh); have hno := all_not (l := (ms)) (p := (mendS l)) hx; rw [hM, hno (by grind)]; rfl) | (refine lk_p0 (k + 1) (by simp) (by simp) (by omega) ⟨by omega, all_step hx hall ?_⟩ rfl; (try simp only [Known] at hh); grind) | (refine lk_p (k + 1) (by simp) (by simp) hσ rfl (by omega) ⟨by omega, all_step hx hall ?_⟩ rfl rfl; (try simp only [Known] at hh); grind) | (refine lk_pm (k + 1) (Nat.le_refl _) (by simp) hσ rfl rfl (by omega) ⟨by omega, all_step hx hall ?_⟩ (by simp [ltE, keep, eget, V.lt]) rfl; (try simp only [Known] at hh); grind)))
  replace hall := all_len hall ((end_of h1 hk).trans (by rfl))
  clear h1 hk
  simp -implicitDefEqProofs only [S0, S1, S2, S3, S4, S5, S6, S7, S8, S9, S10, S11, S12, S13, S14, S15, S16, S17, opv, opvs, eget, env0, setD, lenStr, lenSl, isNilP, isNilS, putAt, if_true, if_false, reduceCtorEq, Nat.reduceLeDiff, Nat.reduceEqDiff, Nat.reduceSub, Nat.reduceMul, Nat.reduceAdd]
  have hall1 := hall
  clear hall
  have hres := all_rows hsh hall1
  refine loop_p [45, 1, 43, 44] [1, 43, 44] (fun k : Nat => [(45, .t (.int .i64 (k : Nat)))]) (fun k => k ≤ l.length ∧ (l.take k).all (srchB ms) = true) (fun k => l.length - k) 0 (by simp) ⟨Nat.zero_le _, rfl⟩ rfl ?_
  rintro k ⟨hk, hall⟩
  simp -implicitDefEqProofs only [keep, List.length_map, S0, S1, S2, S3, S4, S5, S6, S7, S8, S9, S10, S11, S12, S13, S14, S15, S16, S17, opv, opvs, eget, env0, setD, lenStr, lenSl, isNilP, isNilS, putAt, if_true, if_false, reduceCtorEq, Nat.reduceLeDiff, Nat.reduceEqDiff, Nat.reduceSub, Nat.reduceMul, Nat.reduceAdd]
  refine cond_split (fun h1 => ?_) (fun h1 => ?_)
  · obtain ⟨x, hx, hlt⟩ := at_of h1
    have more := i64_succ (show k < 4611686018427387904 by omega)
    have hxm := mem_at hx
    simp -implicitDefEqProofs only [hx, more, nat_nn, Nat.zero_le, List.getElem?_map, Option.map_some, List.length_map, GateShape.ts, S0, S1, S2, S3, S4, S5, S6, S7, S8, S9, S10, S11, S12, S13, S14, S15, S16, S17, opv, opvs, eget, env0, setD, lenStr, lenSl, isNilP, isNilS, putAt, if_true, if_false, reduceCtorEq, Nat.reduceLeDiff, Nat.reduceEqDiff, Nat.reduceSub, Nat.reduceMul, Nat.reduceAdd]
    refine call_by (by rw [List.append_nil]; exact impl_rowOf x (shape_parts hsh hxm).1 ms m12 (reads_in hsh hall1 hxm) _) ?_
    rintro r s' ⟨⟨u, rfl⟩, hl', hk'⟩
    rw [kp_split hk' hl']
    generalize hdr : List.drop _ s' = τ
    have hb : srchB ms x = _ := rfl
    rw [srchB] at hb
    rcases hbb : srchB ms x with _ | _
    · rw [srchB] at hbb
      simp -implicitDefEqProofs only [hbb, cond_t, cond_f, Bool.not_false, S0, S1, S2, S3, S4, S5, S6, S7, S8, S9, S10, S11, S12, S13, S14, S15, S16, S17, opv, opvs, eget, env0, setD, lenStr, lenSl, isNilP, isNilS, putAt, if_true, if_false, reduceCtorEq, Nat.reduceLeDiff, Nat.reduceEqDiff, Nat.reduceSub, Nat.reduceMul, Nat.reduceAdd]
      have hno := all_not (l := l) (p := srchB ms) hx (by rw [srchB]; exact hbb)
      exact fin (tb (by rw [hM, hall1, ← hres, hno]; rfl)) rfl
    · have hst := all_step hx hall hbb
      rw [srchB] at hbb
      simp -implicitDefEqProofs only [hbb, cond_t, cond_f, Bool.not_true, more, S0, S1, S2, S3, S4, S5, S6, S7, S8, S9, S10, S11, S12, S13, S14, S15, S16, S17, opv, opvs, eget, env0, setD, lenStr, lenSl, isNilP, isNilS, putAt, if_true, if_false, reduceCtorEq, Nat.reduceLeDiff, Nat.reduceEqDiff, Nat.reduceSub, Nat.reduceMul, Nat.reduceAdd]
      exact lk_p (k + 1) (by simp) (by simp) hσ rfl (by omega) ⟨by omega, hst⟩ (by simp [ltE, keep, eget, V.lt]) rfl
  · replace hall := all_len hall (end_of h1 hk)
    simp -implicitDefEqProofs only [S0, S1, S2, S3, S4, S5, S6, S7, S8, S9, S10, S11, S12, S13, S14, S15, S16, S17, opv, opvs, eget, env0, setD, lenStr, lenSl, isNilP, isNilS, putAt, if_true, if_false, reduceCtorEq, Nat.reduceLeDiff, Nat.reduceEqDiff, Nat.reduceSub, Nat.reduceMul, Nat.reduceAdd]
    first | exact fin0 (tb (by rw [hM, hall1, ← hres, hall]; rfl)) | exact fin (tb (by rw [hM, hall1, ← hres, hall]; rfl)) rfl

end Go.Proofs.Ytcjchimenfadkaa.W

end
