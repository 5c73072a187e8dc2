/- Lines and sheets of one's own. Conditions: none. -/
/- How a sheet is filled, block by block. Conditions: none. -/
/- What a filled sheet is. Conditions: none. -/
import Derived.Test.YtkppdeobinefbaaDoorSheetFillP
set_option linter.unusedSimpArgs false
set_option linter.unusedVariables false
set_option linter.defProp false

section
open Go Go.Ab
set_option maxHeartbeats 2000000
namespace Go.Proofs.YtkppdeobinefbaaDoor.W
theorem own_len2 {s : Store} {n : Nat} {rows : List (List T)} {w : V} {is : List Nat} (h : Own s (.lst n rows) w is) : lenSl w = some rows.length := by
  simp only [Own] at h
  obtain ⟨_, ⟨rfl, rfl, rfl | rfl⟩ | ⟨id, js, rs, rfl, rfl, _, h2⟩⟩ := h
  · rfl
  · rfl
  · rw [h2.len]; rfl
/-- A line of one's own: the line, its words' value, the objects' numbers. -/
structure QL where
  x : SheetLine
  w : V
  is : List Nat
def QL.row (q : QL) : List V := [.t (.str q.x.Key), q.w]
def QL.at (s : Store) (q : QL) : Prop := Own s (tStrs q.x.Words) q.w q.is
theorem ql_of {s : Store} : ∀ {ls : List SheetLine} {rs : List (List V)} {js : List Nat}, OwnR s (ls.map SheetLine.ts) rs js → ∃ L : List QL, L.map QL.x = ls ∧ rs = L.map QL.row ∧ js = L.flatMap QL.is ∧ ∀ q ∈ L, q.at s
  | [], rs, js, h => by
    simp only [List.map_nil, OwnR] at h
    obtain ⟨rfl, rfl⟩ := h
    exact ⟨[], rfl, rfl, rfl, by simp⟩
  | x :: ls, rs, js, h => by
    simp only [List.map_cons, OwnR] at h
    obtain ⟨u, us, i, j, rfl, rfl, h1, h2⟩ := h
    obtain ⟨L, rfl, rfl, rfl, h3⟩ := ql_of h2
    simp only [SheetLine.ts, OwnL] at h1
    obtain ⟨_, _, i1, j1, rfl, rfl, hs1, _, _, i2, j2, rfl, rfl, hs2, rfl, rfl⟩ := h1
    simp only [Own] at hs1
    obtain ⟨rfl, rfl⟩ := hs1
    refine ⟨⟨x, _, i2⟩ :: L, rfl, rfl, by simp, fun q hq => ?_⟩
    rcases List.mem_cons.1 hq with rfl | hq
    · exact hs2
    · exact h3 q hq
theorem ql_own {s : Store} : ∀ {L : List QL}, (∀ q ∈ L, q.at s) → OwnR s ((L.map QL.x).map SheetLine.ts) (L.map QL.row) (L.flatMap QL.is)
  | [], _ => by simp [OwnR]
  | q :: L, h => by
    have ih := ql_own (L := L) fun p hp => h p (by simp [hp])
    simp only [List.map_cons, List.flatMap_cons]
    exact OwnR.cons (lines_own (h q (by simp))) ih
theorem ql_one {s : Store} {L : List QL} (h : ∀ q ∈ L, q.at s) : ∀ q ∈ L, Go.Ab.one q.w = true := fun q hq => (h q hq).one
theorem nodup_uniq {α : Type} {f : α → List Nat} : ∀ {L : List α} {a b : α} {i : Nat}, (L.flatMap f).Nodup → a ∈ L → b ∈ L → i ∈ f a → i ∈ f b → a = b
  | [], _, _, _, _, h, _, _, _ => by cases h
  | c :: L, a, b, i, hn, ha, hb, h1, h2 => by
    rw [List.flatMap_cons] at hn
    obtain ⟨n1, n2, n3⟩ := List.nodup_append.1 hn
    rcases List.mem_cons.1 ha with e1 | ha2
    · rcases List.mem_cons.1 hb with e2 | hb2
      · rw [e1, e2]
      · exact (n3 i (e1 ▸ h1) i (List.mem_flatMap.2 ⟨b, hb2, h2⟩) rfl).elim
    · rcases List.mem_cons.1 hb with e2 | hb2
      · exact (n3 i (e2 ▸ h2) i (List.mem_flatMap.2 ⟨a, ha2, h1⟩) rfl).elim
      · exact nodup_uniq n2 ha2 hb2 h1 h2
theorem nodup_filter {α : Type} {f : α → List Nat} {p : α → Bool} : ∀ {L : List α}, (L.flatMap f).Nodup → ((L.filter p).flatMap f).Nodup
  | [], _ => by simp
  | c :: L, hn => by
    rw [List.flatMap_cons] at hn
    obtain ⟨n1, n2, n3⟩ := List.nodup_append.1 hn
    have ih := nodup_filter (p := p) n2
    rw [List.filter_cons]
    split
    · rw [List.flatMap_cons]
      refine List.nodup_append.2 ⟨n1, ih, fun x hx y hy => n3 x hx y ?_⟩
      obtain ⟨q, hq, hy⟩ := List.mem_flatMap.1 hy
      exact List.mem_flatMap.2 ⟨q, (List.mem_filter.1 hq).1, hy⟩
    · exact ih
/-- A row of a list of one's own, and another row in its place. -/
theorem own_row {s : Store} {n i : Nat} {rows : List (List T)} {r : List T} {v : V} {is : List Nat} (h : Own s (.lst n rows) v is) (hr : rows[i]? = some r) :
    ∃ id rs u js rest, v = .sl id rows.length 0 rows.length ∧ s[id]? = some (.slc n rs) ∧ rs.length = rows.length ∧ rs[i]? = some u ∧ OwnL s r u js ∧ is.Perm (id :: (js ++ rest)) ∧
      ∀ (s' : Store) (r' : List T) (u' : List V) (js' : List Nat), s'[id]? = some (.slc n (rs.set i u')) → (∀ j ∈ rest, s'[j]? = s[j]?) → OwnL s' r' u' js' → ∃ is', Own s' (.lst n (rows.set i r')) v is' ∧ is'.Perm (id :: (js' ++ rest)) := by
  have hi := (List.getElem?_eq_some_iff.1 hr).1
  simp only [Own] at h
  obtain ⟨hp, ⟨rfl, _⟩ | ⟨id, js0, rs, rfl, rfl, h1, h2⟩⟩ := h
  · simp at hr
  have hsp := split_at hr
  have hl := h2.len
  rw [hsp] at h2
  obtain ⟨ra, u, rb, ja, ji, jb, rfl, rfl, hla, k1, k2, k3⟩ := OwnR.split h2
  have hla' : ra.length = i := by rw [hla, List.length_take]; omega
  refine ⟨id, _, u, ji, ja ++ jb, by rw [hl], h1, hl, by rw [← hla']; simp, k2, ?_, fun s' r' u' js' g1 g2 g3 => ⟨id :: (ja ++ (js' ++ jb)), ?_, ?_⟩⟩
  · refine List.Perm.cons _ ?_
    rw [← List.append_assoc, ← List.append_assoc]
    exact List.Perm.append_right _ List.perm_append_comm
  · simp only [Own]
    refine ⟨hp, .inr ⟨id, ja ++ (js' ++ jb), (ra ++ u :: rb).set i u', rfl, by rw [List.length_set], g1, ?_⟩⟩
    have e1 : rows.set i r' = rows.take i ++ r' :: rows.drop (i + 1) := by
      conv => lhs; rw [hsp]
      rw [List.set_append_right _ _ (by simp; omega), List.length_take, Nat.min_eq_left (by omega), Nat.sub_self, List.set_cons_zero]
    have e2 : (ra ++ u :: rb).set i u' = ra ++ u' :: rb := by
      rw [List.set_append_right _ _ (by omega), hla', Nat.sub_self, List.set_cons_zero]
    rw [e1, e2]
    exact OwnR.app (k1.frame fun j hj => g2 j (by simp [hj])) (OwnR.cons g3 (k3.frame fun j hj => g2 j (by simp [hj])))
  · refine List.Perm.cons _ ?_
    rw [← List.append_assoc, ← List.append_assoc]
    exact List.Perm.append_right _ List.perm_append_comm
theorem own_slc {s : Store} {t : T} {v : V} {is : List Nat} (h : Own s t v is) : ∀ i ∈ is, ∃ sz rs, s[i]? = some (.slc sz rs) := fun i hi => by
  obtain ⟨sz, rs, h1, _⟩ := h.cl.2 i hi
  exact ⟨sz, rs, h1⟩
theorem own_box {s : Store} {t : T} {v : V} {is : List Nat} {X : Nat} {c : List V} (h : Own s t v is) (hx : s[X]? = some (.box c)) : X ∉ is := fun hm => by
  obtain ⟨sz, rs, h1⟩ := own_slc h X hm
  rw [h1] at hx; cases hx
theorem own_str1 {s : Store} {l : List (List UInt8)} {w : V} {is : List Nat} (h : Own s (tStrs l) w is) : ∀ i ∈ is, ∃ rs, s[i]? = some (.slc 1 rs) := by
  intro i hi
  rcases own_obj h (tStr_flat l) with ⟨_, rfl, _⟩ | ⟨id, rfl, _, h3⟩
  · cases hi
  · obtain rfl : i = id := by simpa using hi
    exact ⟨_, h3⟩
theorem ovl_step {s0 s s' : Store} {n : Nat} {rows : List (List V)} {v : V} (h : OVl s0 n rows v s) (hk : Kp s s') (hl : s.length ≤ s'.length) : OVl s0 n rows v s' := by
  refine ⟨Nat.le_trans h.le hl, h.kp.trans h.le hk, h.ob.imp id ?_⟩
  rintro ⟨id, h1, h2, h3⟩
  exact ⟨id, h1, h2, hk.box h3⟩
def QV (s : Store) (L : List QL) (v : V) : Prop := (L = [] ∧ (v = .nils ∨ v = .rows 2 [])) ∨ ∃ id, v = .sl id L.length 0 L.length ∧ s[id]? = some (.slc 2 (L.map QL.row))
theorem QV.one {s : Store} {L : List QL} {v : V} (h : QV s L v) : Go.Ab.one v = true := by
  rcases h with ⟨_, rfl | rfl⟩ | ⟨id, rfl, _⟩ <;> rfl
theorem QV.len {s : Store} {L : List QL} {v : V} (h : QV s L v) : lenSl v = some L.length := by
  rcases h with ⟨rfl, rfl | rfl⟩ | ⟨id, rfl, _⟩ <;> rfl
theorem QV.kp {s s' : Store} {L : List QL} {v : V} (h : QV s L v) (k : Kp s s') : QV s' L v := by
  rcases h with h | ⟨id, h1, h2⟩
  · exact .inl h
  · exact .inr ⟨id, h1, k.box h2⟩
def ofQ (key : List UInt8) (L : List QL) : List QL := L.filter fun q => q.x.Key == key
theorem ofQ_x (key : List UInt8) (L : List QL) : (ofQ key L).map QL.x = ofR key (L.map QL.x) := by
  rw [ofQ, ofR, List.filter_map]; rfl
theorem ofQ_le (key : List UInt8) (L : List QL) (k : Nat) : (ofQ key (L.take k)).length ≤ k := Nat.le_trans (List.length_filter_le _ _) (by simp; omega)
theorem ofQ_step {key : List UInt8} {L : List QL} {k : Nat} {x : QL} (h : L[k]? = some x) (hk : (x.x.Key == key) = true) : (ofQ key (L.take (k + 1))).map QL.row = (ofQ key (L.take k)).map QL.row ++ [x.row] := by
  rw [take_of h, ofQ, ofQ, List.filter_append, List.filter_cons, List.filter_nil, if_pos hk]; simp
theorem ofQ_skip {key : List UInt8} {L : List QL} {k : Nat} {x : QL} (h : L[k]? = some x) (hk : (x.x.Key == key) = false) : (ofQ key (L.take (k + 1))).map QL.row = (ofQ key (L.take k)).map QL.row := by
  rw [take_of h, ofQ, ofQ, List.filter_append, List.filter_cons, List.filter_nil, if_neg (by rw [hk]; simp)]; simp

set_option maxHeartbeats 8000000 in
theorem impl_ofV (kind name key : List UInt8) (L : List QL) (hb : L.length ≤ 1048576) (hL : ∀ q ∈ L, Go.Ab.one q.w = true) (lv : V) (σ : Store) (hl : QV σ L lv) : ACalls Tryd.prog 81 [.agg [.t (.str kind), .t (.str name), lv], .t (.str key)] σ fun r σ' => OVl σ 2 ((ofQ key L).map QL.row) r σ' := by
  refine acalls_of Tryd.func81 (by decide +kernel) (code := Tryd.f81.body.getD .skip) (n := 25) (c := c_impl_of) (rs := [(.tmp 4)]) rfl rfl k_impl_of (by kernel_rfl) (by simp) (fun hσ => ?_)
  have o0 := hl.one
  have l0 := hl.len
  simp only [lenSl] at l0
  obtain ⟨σ1, h1s⟩ : ∃ σ1 : Store, σ1 = σ ++ [Go.Ab.Obj.box [.t (.str kind), .t (.str name), lv]] := ⟨_, rfl⟩
  simp -implicitDefEqProofs only [c_impl_of, o0, l0, List.length_map, S0, S1, S2, S3, S4, S5, S6, S7, S8, S9, S10, S11, S12, S13, S14, S15, S16, S17, opv, opvs, eget, env0, setD, lenStr, lenSl, isNilP, isNilS, putAt, if_true, if_false, reduceCtorEq, Nat.reduceLeDiff, Nat.reduceEqDiff, Nat.reduceSub, Nat.reduceMul, Nat.reduceAdd]
  rw [← h1s]
  have h1l : σ.length ≤ σ1.length := by rw [h1s]; simp
  have k1 : Kp σ σ1 := by rw [h1s]; exact Kp.app σ _
  refine loop_g [5, 11, 1, 9, 10] [1, 9, 10] (fun g : Gl => [(5, g.v), (11, .t (.int .i64 (g.k : Nat)))]) Gl.s (fun g => g.k ≤ L.length ∧ OVl σ1 2 ((ofQ key (L.take g.k)).map QL.row) g.v g.s) (fun g => L.length - g.k) ⟨0, .nils, σ1⟩ h1l ⟨Nat.zero_le _, OVl.nils⟩ rfl rfl ?_
  rintro ⟨k, v, s⟩ ⟨hk, hv⟩
  simp only at hk hv
  have hone := hv.one
  have hsl := hv.le
  simp -implicitDefEqProofs only [keep, List.length_map, S0, S1, S2, S3, S4, S5, S6, S7, S8, S9, S10, S11, S12, S13, S14, S15, S16, S17, opv, opvs, eget, env0, setD, lenStr, lenSl, isNilP, isNilS, putAt, if_true, if_false, reduceCtorEq, Nat.reduceLeDiff, Nat.reduceEqDiff, Nat.reduceSub, Nat.reduceMul, Nat.reduceAdd]
  refine cond_split (fun h1 => ?_) (fun h1 => ?_)
  · obtain ⟨x, hx, hlt⟩ := at_of h1
    have more := i64_succ (show k < 4611686018427387904 by omega)
    have c1 : 0 < 1 := by omega
    have ox := hL x (List.mem_of_getElem? hx)
    rcases hl with ⟨h0, _⟩ | ⟨id, rfl, hob⟩
    · rw [h0] at hx; cases hx
    have hob' : s[id]? = some (.slc 2 (L.map QL.row)) := hv.kp.box (k1.box hob)
    have hrl : (L.map QL.row).length = L.length := List.length_map ..
    have hri : (L.map QL.row)[k]? = some [.t (.str x.x.Key), x.w] := by rw [List.getElem?_map, hx]; rfl
    have kx : ((k : Nat) : Int) < ((L.length : Nat) : Int) := by omega
    have hobA : ∀ τ : Store, (s ++ τ)[id]? = some (.slc 2 (L.map QL.row)) := fun τ => (Kp.app s τ).box hob'
    simp -implicitDefEqProofs only [hob', hobA, hrl, hri, kx, ox, Nat.zero_add, c1, nat_nn, Nat.zero_le, List.getElem?_map, Option.map_some, List.length_map, more, S0, S1, S2, S3, S4, S5, S6, S7, S8, S9, S10, S11, S12, S13, S14, S15, S16, S17, opv, opvs, eget, env0, setD, lenStr, lenSl, isNilP, isNilS, putAt, if_true, if_false, reduceCtorEq, Nat.reduceLeDiff, Nat.reduceEqDiff, Nat.reduceSub, Nat.reduceMul, Nat.reduceAdd]
    refine cond_split (fun h2 => ?_) (fun h2 => ?_)
    · have hst := ofQ_step hx h2
      simp -implicitDefEqProofs only [hobA, hrl, hri, kx, ox, Nat.zero_add, c1, hone, more, S0, S1, S2, S3, S4, S5, S6, S7, S8, S9, S10, S11, S12, S13, S14, S15, S16, S17, opv, opvs, eget, env0, setD, lenStr, lenSl, isNilP, isNilS, putAt, if_true, if_false, reduceCtorEq, Nat.reduceLeDiff, Nat.reduceEqDiff, Nat.reduceSub, Nat.reduceMul, Nat.reduceAdd]
      refine lit_rows ?_
      have hrow : ∀ s' : Store, rowsOf s' 2 (.rows 2 [[V.t (.str x.x.Key), x.w]]) = some [[V.t (.str x.x.Key), x.w]] := fun s' => rowsOf_rows (by simp only [List.all_cons, List.all_nil, ox, Bool.and_true]; rfl)
      simp -implicitDefEqProofs only [hrow, S0, S1, S2, S3, S4, S5, S6, S7, S8, S9, S10, S11, S12, S13, S14, S15, S16, S17, opv, opvs, eget, env0, setD, lenStr, lenSl, isNilP, isNilS, putAt, if_true, if_false, reduceCtorEq, Nat.reduceLeDiff, Nat.reduceEqDiff, Nat.reduceSub, Nat.reduceMul, Nat.reduceAdd]
      have hle := ofQ_le key L k
      refine (hv.more _).app (by simp only [List.length_map, List.length_cons, List.length_nil, maxBy]; omega) (by simp only [List.length_map, List.length_cons, List.length_nil]; omega) fun v' s' hl' _ hv' => ?_
      simp -implicitDefEqProofs only [more, S0, S1, S2, S3, S4, S5, S6, S7, S8, S9, S10, S11, S12, S13, S14, S15, S16, S17, opv, opvs, eget, env0, setD, lenStr, lenSl, isNilP, isNilS, putAt, if_true, if_false, reduceCtorEq, Nat.reduceLeDiff, Nat.reduceEqDiff, Nat.reduceSub, Nat.reduceMul, Nat.reduceAdd]
      exact lk_g ⟨k + 1, v', s'⟩ (by simp only; omega) ⟨by simp only; omega, by simp only; rw [hst]; exact hv'⟩ (by simp at hl'; omega) rfl rfl
    · have hst := ofQ_skip hx h2
      simp -implicitDefEqProofs only [more, S0, S1, S2, S3, S4, S5, S6, S7, S8, S9, S10, S11, S12, S13, S14, S15, S16, S17, opv, opvs, eget, env0, setD, lenStr, lenSl, isNilP, isNilS, putAt, if_true, if_false, reduceCtorEq, Nat.reduceLeDiff, Nat.reduceEqDiff, Nat.reduceSub, Nat.reduceMul, Nat.reduceAdd]
      exact lk_g ⟨k + 1, v, _⟩ (by simp only; omega) ⟨by simp only; omega, by simp only; rw [hst]; exact hv.more _⟩ (by simp; omega) rfl rfl
  · have hkk := end_of h1 hk
    rw [hkk, List.take_length] at hv
    simp -implicitDefEqProofs only [S0, S1, S2, S3, S4, S5, S6, S7, S8, S9, S10, S11, S12, S13, S14, S15, S16, S17, opv, opvs, eget, env0, setD, lenStr, lenSl, isNilP, isNilS, putAt, if_true, if_false, reduceCtorEq, Nat.reduceLeDiff, Nat.reduceEqDiff, Nat.reduceSub, Nat.reduceMul, Nat.reduceAdd]
    have hb2 := hv.base k1 h1l
    exact fin_keep hb2.le hb2

structure Gq where
  k : Nat
  v : V
  s : Store
  is : List Nat
theorem blk_own {s : Store} {b : SheetBlock} {v : V} {js : List Nat} (h : Own s (tSheetLineS b.Lines) v js) : OwnL s b.ts [.t (.str b.Kind), .t (.str b.Name), v] js := by
  simp only [SheetBlock.ts, OwnL]
  exact ⟨_, _, [], js, rfl, rfl, own_sc rfl, _, _, [], js, rfl, rfl, own_sc rfl, _, _, js, [], rfl, by simp, h, rfl, rfl⟩
def c_impl_clone_sheet : C := (.seq (.ops [⟨(some 1), none, (.box (.t 0))⟩, ⟨(some 2), none, (.new [.nils])⟩]) (.seq (.ops [⟨(some 3), none, (.new [.nils])⟩]) (.seq (.seq (.ops [⟨(some 6), none, (.fieldAddr 0 (.t 1))⟩, ⟨(some 7), none, (.load none (.t 6))⟩, ⟨(some 8), none, (.len false (.t 7))⟩, ⟨(some 9), none, (.mv (.c (.t (.int .i64 0))))⟩]) (.block 0 (.loop (.seq (.ops [⟨(some 10), none, (.bin .lss (.t 9) (.t 8))⟩]) (.seq (.cond (.t 10) .skip (.exit 0)) (.seq (.block 1 (.seq (.ops [⟨(some 11), none, (.indexAddr 3 (.t 7) (.t 9))⟩, ⟨(some 12), none, (.load (some 3) (.t 11))⟩, ⟨(some 5), none, (.new [(.t (.str [])), (.t (.str [])), .nils])⟩, ⟨none, none, (.store 3 (.t 5) (.t 12))⟩]) (.seq (.ops [⟨(some 13), none, (.fieldAddr 2 (.t 5))⟩, ⟨(some 14), none, (.load none (.t 13))⟩, ⟨(some 15), none, (.call (.c (.fn (.func 80) [])) [(.t 14)])⟩, ⟨(some 16), none, (.fieldAddr 2 (.t 5))⟩, ⟨none, none, (.store 1 (.t 16) (.t 15))⟩]) (.ops [⟨(some 17), none, (.fieldAddr 0 (.t 3))⟩, ⟨(some 18), none, (.load none (.t 17))⟩, ⟨(some 19), none, (.load (some 3) (.t 5))⟩, ⟨(some 20), none, (.lit none 3 1 [(.t (.str [])), (.t (.str [])), .nils] [⟨0, (.t 19)⟩])⟩, ⟨(some 21), none, (.append 3 56 (.t 18) (.t 20))⟩, ⟨(some 22), none, (.fieldAddr 0 (.t 3))⟩, ⟨none, none, (.store 1 (.t 22) (.t 21))⟩])))) (.ops [⟨(some 23), none, (.bin .add (.t 9) (.c (.t (.int .i64 1))))⟩, ⟨(some 9), none, (.mv (.t 23))⟩]))))))) (.seq (.ops [⟨(some 24), none, (.load (some 1) (.t 3))⟩, ⟨none, none, (.store 1 (.t 2) (.t 24))⟩]) .ret))))
theorem k_impl_clone_sheet : comp Tryd.prog 25 (Tryd.f87.body.getD .skip) = some c_impl_clone_sheet := by kernel_rfl

set_option maxHeartbeats 8000000 in
theorem impl_clone_sheet (bs : List SheetBlock) (hbs : SheetBlock.OkS bs) (σ : Store) : ACalls Tryd.prog 87 [.agg [.t (.lst 3 (bs.map SheetBlock.ts))]] σ (ToLR [tSheetBlockS bs] σ) := by
  refine acalls_of Tryd.func87 (by decide +kernel) (code := Tryd.f87.body.getD .skip) (n := 25) (c := c_impl_clone_sheet) (rs := [(.cell 2 (some 1))]) rfl rfl k_impl_clone_sheet (by kernel_rfl) (by simp) (fun hσ => ?_)
  have y1 := hbs.1
  simp -implicitDefEqProofs only [c_impl_clone_sheet, List.length_map, S0, S1, S2, S3, S4, S5, S6, S7, S8, S9, S10, S11, S12, S13, S14, S15, S16, S17, opv, opvs, eget, env0, setD, lenStr, lenSl, isNilP, isNilS, putAt, if_true, if_false, reduceCtorEq, Nat.reduceLeDiff, Nat.reduceEqDiff, Nat.reduceSub, Nat.reduceMul, Nat.reduceAdd]
  refine loop_g [9, 2, 3, 7, 8] [2, 3, 7, 8] (fun g : Gq => [(9, .t (.int .i64 (g.k : Nat)))]) Gq.s (fun g => g.k ≤ bs.length ∧ Kp σ g.s ∧ σ.length + 3 ≤ g.s.length ∧ Own g.s (.lst 3 ((bs.take g.k).map SheetBlock.ts)) g.v g.is ∧ Wi g.is (σ.length + 3) g.s.length ∧ g.s[σ.length]? = some (.box [.t (.lst 3 (bs.map SheetBlock.ts))]) ∧ g.s[σ.length + 1]? = some (.box [.nils]) ∧ g.s[σ.length + 2]? = some (.box [g.v])) (fun g => bs.length - g.k) ⟨0, .nils, σ ++ [.box [.t (.lst 3 (bs.map SheetBlock.ts))], .box [.nils], .box [.nils]], []⟩ (by simp) ⟨Nat.zero_le _, Kp.app _ _, by simp, by simp [Own], Wi.nil, by simp, by simp, by simp⟩ rfl rfl ?_
  rintro ⟨k, v, s, is⟩ ⟨hk, hkp, hle, ho, hw, e1, e2, e3⟩
  simp only at hk hkp hle ho hw e1 e2 e3
  have hone := ho.one
  simp -implicitDefEqProofs only [keep, e1, List.length_map, S0, S1, S2, S3, S4, S5, S6, S7, S8, S9, S10, S11, S12, S13, S14, S15, S16, S17, opv, opvs, eget, env0, setD, lenStr, lenSl, isNilP, isNilS, putAt, if_true, if_false, reduceCtorEq, Nat.reduceLeDiff, Nat.reduceEqDiff, Nat.reduceSub, Nat.reduceMul, Nat.reduceAdd]
  refine cond_split (fun h1 => ?_) (fun h1 => ?_)
  · obtain ⟨x, hx, hlt⟩ := at_of h1
    have more := i64_succ (show k < 4611686018427387904 by omega)
    have hxo := hbs.2 x (List.mem_of_getElem? hx)
    have htk : (bs.take (k + 1)).map SheetBlock.ts = (bs.take k).map SheetBlock.ts ++ [x.ts] := by rw [take_of hx]; simp
    have c3 : 0 < 3 := by omega
    simp -implicitDefEqProofs only [e1, e2, e3, hone, hx, block_row hx, c3, nat_nn, Nat.zero_le, List.getElem?_map, Option.map_some, List.length_map, SheetBlock.ts, SheetBlock.vs, S0, S1, S2, S3, S4, S5, S6, S7, S8, S9, S10, S11, S12, S13, S14, S15, S16, S17, opv, opvs, eget, env0, setD, lenStr, lenSl, isNilP, isNilS, putAt, if_true, if_false, reduceCtorEq, Nat.reduceLeDiff, Nat.reduceEqDiff, Nat.reduceSub, Nat.reduceMul, Nat.reduceAdd]
    have hcl := impl_cloneLines x.Lines hxo.Lines
    simp only [tSheetLineS] at hcl
    refine call_new (hcl _) ?_
    intro u s1 js hl1 hkp1 ho1 hw1
    have ou := ho1.one
    have b0 : s1[s.length]? = some (.box [.t (.str x.Kind), .t (.str x.Name), .t (.lst 2 (x.Lines.map SheetLine.ts))]) := hkp1.box (by rw [List.getElem?_append_right (by omega), Nat.sub_self]; rfl)
    simp only [List.length_append, List.length_cons, List.length_nil] at hl1 hw1
    have b1 : ∀ o : Go.Ab.Obj, (s1.set s.length o)[s.length]? = some o := fun o => List.getElem?_set_self (by omega)
    have ks1 : Kp s s1 := fun j hj => by rw [hkp1 j (by simp; omega), List.getElem?_append_left hj]
    have e3' : ∀ o : Go.Ab.Obj, (s1.set s.length o)[σ.length + 2]? = some (.box [v]) := fun o => by rw [List.getElem?_set_ne (by omega)]; exact ks1.box e3
    have hrow : ∀ (s' : Store), rowsOf s' 3 (.rows 3 [[.t (.str x.Kind), .t (.str x.Name), u]]) = some [[.t (.str x.Kind), .t (.str x.Name), u]] := fun s' => rowsOf_rows (by simp only [List.all_cons, List.all_nil, ou, Bool.and_true]; rfl)
    have c1 : 0 < 1 := by omega
    simp -implicitDefEqProofs only [b0, b1, e3', ou, one_cells ou, hone, c1, c3, more, S0, S1, S2, S3, S4, S5, S6, S7, S8, S9, S10, S11, S12, S13, S14, S15, S16, S17, opv, opvs, eget, env0, setD, lenStr, lenSl, isNilP, isNilS, putAt, if_true, if_false, reduceCtorEq, Nat.reduceLeDiff, Nat.reduceEqDiff, Nat.reduceSub, Nat.reduceMul, Nat.reduceAdd]
    refine lit_rows ?_
    simp -implicitDefEqProofs only [hrow, S0, S1, S2, S3, S4, S5, S6, S7, S8, S9, S10, S11, S12, S13, S14, S15, S16, S17, opv, opvs, eget, env0, setD, lenStr, lenSl, isNilP, isNilS, putAt, if_true, if_false, reduceCtorEq, Nat.reduceLeDiff, Nat.reduceEqDiff, Nat.reduceSub, Nat.reduceMul, Nat.reduceAdd]
    obtain ⟨s2, hs2⟩ : ∃ s2 : Store, s2 = s1.set s.length (.box [.t (.str x.Kind), .t (.str x.Name), u]) := ⟨_, rfl⟩
    rw [← hs2]
    have l2 : s2.length = s1.length := by rw [hs2, List.length_set]
    have kp2 : Kp s s2 := fun j hj => by rw [hs2, List.getElem?_set_ne (by omega)]; exact ks1 j hj
    have o2 : Own s2 (tSheetLineS x.Lines) u js := ho1.frame fun i hi => by
      have := hw1.2 i hi
      rw [hs2, List.getElem?_set_ne (by omega)]
    have g1 : s2[σ.length]? = some (.box [.t (.lst 3 (bs.map SheetBlock.ts))]) := kp2.box e1
    have g2 : s2[σ.length + 1]? = some (.box [.nils]) := kp2.box e2
    have g3 : s2[σ.length + 2]? = some (.box [v]) := kp2.box e3
    refine app_own' (kp2.own ho) (hw.mono (Nat.le_refl _) (by omega)) (r := x.ts) (js := js) (blk_own o2) (hw1.mono (by omega) (by omega)) (fun i hi => by have := hw.2 i hi; intro hm; have := hw1.2 i hm; omega) (by omega) (by simp only [maxBy, List.length_take, List.length_map]; omega) (by simp only [List.length_take, List.length_map]; omega) ?_
    intro v' s' is' hl' kb ho' hv' hw'
    have nb : ∀ p c, s2[p]? = some (Go.Ab.Obj.box c) → s'[p]? = some (Go.Ab.Obj.box c) := fun p c hp => by
      rw [kb p (List.getElem?_eq_some_iff.1 hp).1 (own_box (kp2.own ho) hp)]; exact hp
    have g3' := nb _ _ g3
    have ov := ho'.one
    simp -implicitDefEqProofs only [g3', ov, one_cells ov, more, S0, S1, S2, S3, S4, S5, S6, S7, S8, S9, S10, S11, S12, S13, S14, S15, S16, S17, opv, opvs, eget, env0, setD, lenStr, lenSl, isNilP, isNilS, putAt, if_true, if_false, reduceCtorEq, Nat.reduceLeDiff, Nat.reduceEqDiff, Nat.reduceSub, Nat.reduceMul, Nat.reduceAdd]
    have c3n : σ.length + 2 ∉ is' := own_box ho' g3'
    refine lk_g ⟨k + 1, v', s'.set (σ.length + 2) (.box [v']), is'⟩ (by simp only; omega) ⟨by simp only; omega, ?_, ?_, ?_, ?_, ?_, ?_, ?_⟩ (by rw [List.length_set]; omega) rfl rfl
    · refine Kp.set (fun j hj => ?_) (by omega)
      rw [kb j (by omega) (fun hm => by have := hw.2 j hm; omega), kp2 j (by omega), hkp j hj]
    · simp only [List.length_set]; omega
    · simp only
      rw [htk]
      exact set_own ho' c3n
    · simp only [List.length_set]; exact hw'
    · simp only
      rw [List.getElem?_set_ne (by omega)]; exact nb _ _ g1
    · simp only
      rw [List.getElem?_set_ne (by omega)]; exact nb _ _ g2
    · exact List.getElem?_set_self (by omega)
  · have hkk := end_of h1 hk
    rw [hkk, List.take_length] at ho
    have e2t : ∀ o : Go.Ab.Obj, (s.set (σ.length + 1) o)[σ.length + 1]? = some o := fun o => List.getElem?_set_self (by omega)
    simp -implicitDefEqProofs only [e1, e2, e3, e2t, hone, one_cells hone, S0, S1, S2, S3, S4, S5, S6, S7, S8, S9, S10, S11, S12, S13, S14, S15, S16, S17, opv, opvs, eget, env0, setD, lenStr, lenSl, isNilP, isNilS, putAt, if_true, if_false, reduceCtorEq, Nat.reduceLeDiff, Nat.reduceEqDiff, Nat.reduceSub, Nat.reduceMul, Nat.reduceAdd]
    refine fin_keep (by simp; omega) ⟨[v], _, is, rfl, kp_split (hkp.set (by omega)) (by simp; omega), ?_, hw.mono (by omega) (by simp)⟩
    simp only [OwnL]
    exact ⟨v, [], is, [], rfl, by simp, set_own ho (own_box ho e2), rfl, rfl⟩

end Go.Proofs.YtkppdeobinefbaaDoor.W

end


section
open Go Go.Ab
set_option maxHeartbeats 2000000
namespace Go.Proofs.YtkppdeobinefbaaDoor.W
structure Gm where
  j : Nat
  v : V
  s : Store
  M : List QL
structure FM (s1 : Store) (L : List QL) (kind : List UInt8) (ls : List SheetLine) (g : Gm) : Prop where
  le : g.j ≤ (rulesR kind).length
  ov : OVl s1 2 (g.M.map QL.row) g.v g.s
  ats : ∀ q ∈ g.M, q.at g.s
  nd : (g.M.flatMap QL.is).Nodup
  xs : g.M.map QL.x = ((rulesR kind).take g.j).flatMap fun r => stdOr r (ofR r.Key ls)
  wh : ∀ q ∈ g.M, (q ∈ L ∧ ∃ i r, i < g.j ∧ (rulesR kind)[i]? = some r ∧ q.x.Key = r.Key) ∨ ∀ i ∈ q.is, s1.length ≤ i
theorem FM.zero (s1 : Store) (L : List QL) (kind : List UInt8) (ls : List SheetLine) : FM s1 L kind ls ⟨0, .nils, s1, []⟩ :=
  ⟨Nat.zero_le _, OVl.nils, by simp, by simp, rfl, by simp⟩
theorem q_keep {s0 s s' : Store} {rows : List (List V)} {v : V} {q : QL} (h : q.at s) (ho : OVl s0 2 rows v s) (k : ∀ j, j < s.length → (∀ g, v = .sl j g 0 g → False) → s'[j]? = s[j]?) : q.at s' := by
  refine Own.frame h fun i hi => k i (h.lt i hi) fun g hg => ?_
  obtain ⟨rs, h1⟩ := own_str1 h i hi
  rcases ho.ob with ⟨_, rfl | rfl⟩ | ⟨id, _, rfl, h2⟩
  · cases hg
  · cases hg
  · simp only [V.sl.injEq] at hg
    rw [hg.1, h1] at h2
    cases h2
theorem FM.next {s1 : Store} {L : List QL} {kind : List UInt8} {ls : List SheetLine} {j : Nat} {v v3 : V} {s s2 s3 : Store} {M N : List QL} {r : SheetRule} (h : FM s1 L kind ls ⟨j, v, s, M⟩) (hr : (rulesR kind)[j]? = some r)
    (hk : Kp s s2) (hl : s.length ≤ s2.length) (k3 : ∀ j, j < s2.length → (∀ g, v = .sl j g 0 g → False) → s3[j]? = s2[j]?) (ov3 : OVl s1 2 (M.map QL.row ++ N.map QL.row) v3 s3)
    (hat : ∀ q ∈ N, q.at s2) (hnd : (N.flatMap QL.is).Nodup) (hdis : ∀ q ∈ M, ∀ p ∈ N, ∀ i ∈ q.is, i ∉ p.is) (hwh : ∀ q ∈ N, (q ∈ L ∧ q.x.Key = r.Key) ∨ ∀ i ∈ q.is, s1.length ≤ i) (hx : N.map QL.x = stdOr r (ofR r.Key ls)) : FM s1 L kind ls ⟨j + 1, v3, s3, M ++ N⟩ := by
  have hj := (List.getElem?_eq_some_iff.1 hr).1
  have ov2 := ovl_step h.ov hk hl
  refine ⟨hj, by rw [List.map_append]; exact ov3, fun q hq => ?_, ?_, ?_, fun q hq => ?_⟩
  · rcases List.mem_append.1 hq with hq | hq
    · exact q_keep (hk.own (h.ats q hq)) ov2 k3
    · exact q_keep (hat q hq) ov2 k3
  · rw [List.flatMap_append]
    refine List.nodup_append.2 ⟨h.nd, hnd, fun x hx y hy he => ?_⟩
    obtain ⟨q, hq, hx⟩ := List.mem_flatMap.1 hx
    obtain ⟨p, hp, hy⟩ := List.mem_flatMap.1 hy
    subst he
    exact hdis q hq p hp x hx hy
  · simp only
    rw [List.map_append, take_of hr, List.flatMap_append, h.xs, hx]
    simp
  · rcases List.mem_append.1 hq with hq | hq
    · rcases h.wh q hq with ⟨g1, i, t, g2, g3⟩ | g1
      · exact .inl ⟨g1, i, t, by simp only at g2 ⊢; omega, g3⟩
      · exact .inr g1
    · rcases hwh q hq with ⟨g1, g2⟩ | g1
      · exact .inl ⟨g1, j, r, by simp, hr, g2⟩
      · exact .inr g1
theorem FM.disA {s1 : Store} {L : List QL} {kind : List UInt8} {ls : List SheetLine} {j : Nat} {v : V} {s : Store} {M : List QL} {r : SheetRule} (h : FM s1 L kind ls ⟨j, v, s, M⟩) (hr : (rulesR kind)[j]? = some r) (hL : (L.flatMap QL.is).Nodup) (hLa : ∀ q ∈ L, q.at s1) :
    ∀ q ∈ M, ∀ p ∈ ofQ r.Key L, ∀ i ∈ q.is, i ∉ p.is := by
  intro q hq p hp i hi hi2
  obtain ⟨hp1, hp2⟩ := List.mem_filter.1 hp
  have hpk : p.x.Key = r.Key := by simpa using hp2
  rcases h.wh q hq with ⟨g1, a, t, g2, g3, g4⟩ | g1
  · have := nodup_uniq hL g1 hp1 hi hi2
    subst this
    have := key_inj g3 hr (by rw [← g4, hpk])
    simp only at g2
    omega
  · have := g1 i hi
    have := (hLa p hp1).lt i hi2
    omega
/-- The lines that were put together are one's own. -/
theorem FM.own {s1 : Store} {L : List QL} {kind : List UInt8} {ls : List SheetLine} {g : Gm} (h : FM s1 L kind ls g) : ∃ js, Own g.s (tSheetLineS (g.M.map QL.x)) g.v js ∧ js.Nodup ∧ ∀ i ∈ js, (∃ q ∈ L, i ∈ q.is) ∨ s1.length ≤ i := by
  have hwh : ∀ i ∈ g.M.flatMap QL.is, (∃ q ∈ L, i ∈ q.is) ∨ s1.length ≤ i := fun i hi => by
    obtain ⟨q, hq, hi⟩ := List.mem_flatMap.1 hi
    rcases h.wh q hq with ⟨g1, _⟩ | g1
    · exact .inl ⟨q, g1, hi⟩
    · exact .inr (g1 i hi)
  rcases h.ov.ob with ⟨h0, h1⟩ | ⟨id, h1, h2, h3⟩
  · have hM : g.M = [] := by simpa using h0
    refine ⟨[], ?_, by simp, by simp⟩
    rw [hM]
    simp only [tSheetLineS, List.map_nil, Own]
    exact ⟨by omega, .inl ⟨trivial, trivial, h1⟩⟩
  · refine ⟨id :: g.M.flatMap QL.is, ?_, List.nodup_cons.2 ⟨fun hm => ?_, h.nd⟩, fun i hi => ?_⟩
    · simp only [tSheetLineS, Own]
      exact ⟨by omega, .inr ⟨id, _, _, rfl, h2, h3, ql_own h.ats⟩⟩
    · obtain ⟨q, hq, hm⟩ := List.mem_flatMap.1 hm
      obtain ⟨rs, h4⟩ := own_str1 (h.ats q hq) id hm
      rw [h3] at h4
      cases h4
    · rcases List.mem_cons.1 hi with rfl | hi
      · exact .inr h1
      · exact hwh i hi
theorem flat_len {α β : Type} {f : α → List β} {m : Nat} : ∀ {l : List α}, (∀ x ∈ l, (f x).length ≤ m) → (l.flatMap f).length ≤ l.length * m
  | [], _ => by simp
  | a :: l, h => by
    have := flat_len (l := l) fun x hx => h x (by simp [hx])
    have := h a (by simp)
    rw [List.flatMap_cons, List.length_append, List.length_cons, Nat.succ_mul]
    omega
theorem std_len {r : SheetRule} {ls : List SheetLine} (h : ls.length ≤ 120) : (stdOr r (ofR r.Key ls)).length ≤ 120 := by
  unfold stdOr
  split
  · simp
  · exact Nat.le_trans (List.length_filter_le _ _) h
theorem FM.len {s1 : Store} {L : List QL} {kind : List UInt8} {ls : List SheetLine} {g : Gm} (h : FM s1 L kind ls g) (hl : ls.length ≤ 120) : g.M.length ≤ 1440 := by
  have h1 := flat_len (l := (rulesR kind).take g.j) (f := fun r => stdOr r (ofR r.Key ls)) (m := 120) fun r _ => std_len hl
  rw [← h.xs, List.length_map] at h1
  have h2 : ((rulesR kind).take g.j).length ≤ 12 := by rw [List.length_take]; have := (rules_small kind).1; omega
  have := Nat.mul_le_mul_right 120 h2
  omega
/-- What the lines of a block of one's own are. -/
theorem lines_ql {s : Store} {ls : List SheetLine} {lv : V} {js : List Nat} (h : Own s (tSheetLineS ls) lv js) (hn : js.Nodup) : ∃ L : List QL, L.map QL.x = ls ∧ QV s L lv ∧ (∀ q ∈ L, q.at s) ∧ (L.flatMap QL.is).Nodup ∧ ∀ q ∈ L, ∀ i ∈ q.is, i ∈ js := by
  simp only [tSheetLineS, Own] at h
  obtain ⟨_, ⟨h0, rfl, h1⟩ | ⟨id, js0, rs, rfl, rfl, h1, h2⟩⟩ := h
  · have hl : ls = [] := by simpa using h0
    exact ⟨[], by rw [hl]; rfl, .inl ⟨rfl, h1⟩, by simp, by simp, by simp⟩
  · obtain ⟨L, rfl, rfl, rfl, h3⟩ := ql_of h2
    refine ⟨L, rfl, .inr ⟨id, by rw [List.length_map], h1⟩, h3, (List.nodup_cons.1 hn).2, fun q hq i hi => ?_⟩
    exact List.mem_cons_of_mem _ (List.mem_flatMap.2 ⟨q, hq, hi⟩)
structure Gb where
  i : Nat
  s : Store
  is : List Nat
theorem rules_d5 {kind : List UInt8} {x : SheetRule} (h : x ∈ rulesR kind) : x.Default.length ≤ 5 := by
  have hsmall := List.all_eq_true.1 (rules_small kind).2 x h
  simp only [ruleSmall, Bool.and_eq_true, decide_eq_true_eq] at hsmall
  exact hsmall.1.2
theorem wi_perm {is : List Nat} {is' : List Nat} (p : is'.Perm is) (h : is.Nodup) {a b : Nat} (k : ∀ i ∈ is, a ≤ i ∧ i < b) : Wi is' a b :=
  ⟨p.nodup_iff.2 h, fun i hi => k i (p.mem_iff.1 hi)⟩

def c_impl_SheetFill : C := (.seq (.ops [⟨(some 1), none, (.box (.t 0))⟩, ⟨(some 2), none, (.new [.nils])⟩]) (.seq (.seq (.ops [⟨(some 10), none, (.load (some 1) (.t 1))⟩, ⟨(some 11), none, (.call (.c (.fn (.func 28) [])) [(.t 10)])⟩, ⟨(some 12), none, (.un .not (.t 11))⟩]) (.cond (.t 12) (.seq (.ops [⟨(some 13), none, (.build [.nils] [])⟩, ⟨none, none, (.store 1 (.t 2) (.t 13))⟩]) .ret) .skip)) (.seq (.ops [⟨(some 14), none, (.load (some 1) (.t 1))⟩, ⟨(some 15), none, (.call (.c (.fn (.func 87) [])) [(.t 14)])⟩, ⟨(some 3), none, (.new [.nils])⟩, ⟨none, none, (.store 1 (.t 3) (.t 15))⟩]) (.seq (.seq (.ops [⟨(some 16), none, (.fieldAddr 0 (.t 3))⟩, ⟨(some 17), none, (.load none (.t 16))⟩, ⟨(some 18), none, (.len false (.t 17))⟩, ⟨(some 19), none, (.mv (.c (.t (.int .i64 0))))⟩]) (.block 0 (.loop (.seq (.ops [⟨(some 20), none, (.bin .lss (.t 19) (.t 18))⟩]) (.seq (.cond (.t 20) .skip (.exit 0)) (.seq (.block 1 (.seq (.ops [⟨(some 21), none, (.mv (.t 19))⟩, ⟨(some 4), none, (.mv (.t 21))⟩]) (.seq (.ops [⟨(some 22), none, (.fieldAddr 0 (.t 3))⟩, ⟨(some 23), none, (.load none (.t 22))⟩, ⟨(some 24), none, (.mv (.t 4))⟩, ⟨(some 25), none, (.indexAddr 3 (.t 23) (.t 24))⟩, ⟨(some 5), none, (.mv (.t 25))⟩]) (.seq (.ops [⟨(some 6), none, (.mv (.c .nils))⟩]) (.seq (.seq (.ops [⟨(some 26), none, (.mv (.t 5))⟩, ⟨(some 27), none, (.nilCheck (.t 26))⟩, ⟨(some 28), none, (.fieldAddr 0 (.t 27))⟩, ⟨(some 29), none, (.load none (.t 28))⟩, ⟨(some 30), none, (.call (.c (.fn (.func 13) [])) [(.t 29)])⟩, ⟨(some 31), none, (.len false (.t 30))⟩, ⟨(some 32), none, (.mv (.c (.t (.int .i64 0))))⟩]) (.block 2 (.loop (.seq (.ops [⟨(some 33), none, (.bin .lss (.t 32) (.t 31))⟩]) (.seq (.cond (.t 33) .skip (.exit 2)) (.seq (.block 3 (.seq (.ops [⟨(some 34), none, (.indexAddr 4 (.t 30) (.t 32))⟩, ⟨(some 35), none, (.load (some 4) (.t 34))⟩, ⟨(some 8), none, (.new [(.t (.str [])), .nils, (.t (.bool false)), .nils])⟩, ⟨none, none, (.store 4 (.t 8) (.t 35))⟩]) (.seq (.drawn [(.mk 0 false ⟨(some 36), none, (.mv (.t 5))⟩ []), (.mk 1 false ⟨(some 37), none, (.nilCheck (.t 36))⟩ []), (.mk 2 false ⟨(some 38), none, (.load (some 3) (.t 37))⟩ []), (.mk 3 false ⟨(some 39), none, (.fieldAddr 0 (.t 8))⟩ []), (.mk 4 false ⟨(some 40), none, (.load none (.t 39))⟩ []), (.mk 5 false ⟨(some 41), none, (.call (.c (.fn (.func 81) [])) [(.t 38), (.t 40)])⟩ []), (.mk 6 false ⟨(some 9), none, (.mv (.t 41))⟩ [])]) (.seq (.seq (.ops [⟨(some 42), none, (.mv (.t 9))⟩, ⟨(some 43), none, (.len false (.t 42))⟩, ⟨(some 44), none, (.bin .eql (.t 43) (.c (.t (.int .i64 0))))⟩, ⟨(some 45), none, (.mv (.t 44))⟩, ⟨(some 46), (some ⟨45, true⟩), (.fieldAddr 2 (.t 8))⟩, ⟨(some 47), (some ⟨45, true⟩), (.load none (.t 46))⟩, ⟨(some 48), (some ⟨45, true⟩), (.un .not (.t 47))⟩, ⟨(some 49), none, (.pick (.t 45) (.t 48) (.c (.t (.bool false))))⟩]) (.cond (.t 49) (.ops [⟨(some 50), none, (.load (some 4) (.t 8))⟩, ⟨(some 51), none, (.call (.c (.fn (.func 82) [])) [(.t 50)])⟩, ⟨(some 52), none, (.lit none 2 1 [(.t (.str [])), .nils] [⟨0, (.t 51)⟩])⟩, ⟨(some 9), none, (.mv (.t 52))⟩]) .skip)) (.ops [⟨(some 53), none, (.mv (.t 6))⟩, ⟨(some 54), none, (.mv (.t 9))⟩, ⟨(some 55), none, (.append 2 40 (.t 53) (.t 54))⟩, ⟨(some 6), none, (.mv (.t 55))⟩]))))) (.ops [⟨(some 56), none, (.bin .add (.t 32) (.c (.t (.int .i64 1))))⟩, ⟨(some 32), none, (.mv (.t 56))⟩]))))))) (.ops [⟨(some 57), none, (.mv (.t 5))⟩, ⟨(some 58), none, (.mv (.t 6))⟩, ⟨(some 59), none, (.nilCheck (.t 57))⟩, ⟨(some 60), none, (.fieldAddr 2 (.t 59))⟩, ⟨none, none, (.store 1 (.t 60) (.t 58))⟩])))))) (.ops [⟨(some 61), none, (.bin .add (.t 19) (.c (.t (.int .i64 1))))⟩, ⟨(some 19), none, (.mv (.t 61))⟩]))))))) (.seq (.ops [⟨(some 62), none, (.load (some 1) (.t 3))⟩, ⟨none, none, (.store 1 (.t 2) (.t 62))⟩]) .ret)))))
theorem k_impl_SheetFill : comp Tryd.prog 63 (Tryd.f39.body.getD .skip) = some c_impl_SheetFill := by kernel_rfl

set_option maxHeartbeats 16000000 in
set_option maxRecDepth 20000 in
theorem impl_SheetFill0 (s : Sheet) (hs : s.Ok) (σ : Store) : ACalls Tryd.prog 39 [.agg s.vs] σ (ToLR (fillS s).ts σ) := by
  refine acalls_of Tryd.func39 (by decide +kernel) (code := Tryd.f39.body.getD .skip) (n := 63) (c := c_impl_SheetFill) (rs := [(.cell 2 (some 1))]) rfl rfl k_impl_SheetFill (by kernel_rfl) (by simp) (fun hσ => ?_)
  simp -implicitDefEqProofs only [c_impl_SheetFill, Sheet.vs, S0, S1, S2, S3, S4, S5, S6, S7, S8, S9, S10, S11, S12, S13, S14, S15, S16, S17, opv, opvs, eget, env0, setD, lenStr, lenSl, isNilP, isNilS, putAt, if_true, if_false, reduceCtorEq, Nat.reduceLeDiff, Nat.reduceEqDiff, Nat.reduceSub, Nat.reduceMul, Nat.reduceAdd]
  have hvs := impl_SheetValid s hs
  simp only [Sheet.vs] at hvs
  refine call_pure (hvs _) ?_
  rcases hv : sheetR s with _ | _
  · simp -implicitDefEqProofs only [cond_t, cond_f, Bool.not_false, S0, S1, S2, S3, S4, S5, S6, S7, S8, S9, S10, S11, S12, S13, S14, S15, S16, S17, opv, opvs, eget, env0, setD, lenStr, lenSl, isNilP, isNilS, putAt, if_true, if_false, reduceCtorEq, Nat.reduceLeDiff, Nat.reduceEqDiff, Nat.reduceSub, Nat.reduceMul, Nat.reduceAdd]
    refine fin_keep (by simp) ⟨_, _, [], rfl, rfl, ?_, Wi.nil⟩
    have : (fillS s).ts = [.lst 3 []] := by rw [fillS, hv]; rfl
    rw [this]
    simp only [OwnL, Own]
    exact ⟨_, _, [], [], rfl, rfl, ⟨by omega, .inl ⟨trivial, rfl, .inl rfl⟩⟩, rfl, rfl⟩
  obtain ⟨h60, hbl⟩ := sheet_blocks hv
  have hts : (fillS s).ts = [.lst 3 ((s.Blocks.map fillB).map SheetBlock.ts)] := by rw [fillS, hv]; rfl
  simp -implicitDefEqProofs only [cond_t, cond_f, Bool.not_true, S0, S1, S2, S3, S4, S5, S6, S7, S8, S9, S10, S11, S12, S13, S14, S15, S16, S17, opv, opvs, eget, env0, setD, lenStr, lenSl, isNilP, isNilS, putAt, if_true, if_false, reduceCtorEq, Nat.reduceLeDiff, Nat.reduceEqDiff, Nat.reduceSub, Nat.reduceMul, Nat.reduceAdd]
  obtain ⟨bs, hbsd⟩ : ∃ bs, bs = s.Blocks := ⟨_, rfl⟩
  have hbs := hs.Blocks
  rw [← hbsd] at hbs hts hbl h60 ⊢
  refine call_newL (impl_clone_sheet bs hbs _) ?_
  intro us s0 is0 hl0 hk0 ho0 hw0
  simp only [OwnL] at ho0
  obtain ⟨v0, _, is1, _, rfl, rfl, hf0, rfl, rfl⟩ := ho0
  rw [List.append_nil] at hw0
  simp only [List.length_append, List.length_cons, List.length_nil] at hl0 hw0
  have on0 := hf0.one
  have e2 : s0[σ.length + 1]? = some (.box [.nils]) := hk0.box (by simp)
  have K0 : Kp σ s0 := fun x hx => by rw [hk0 x (by simp; omega), List.getElem?_append_left hx]
  simp -implicitDefEqProofs only [e2, on0, one_cells on0, S0, S1, S2, S3, S4, S5, S6, S7, S8, S9, S10, S11, S12, S13, S14, S15, S16, S17, opv, opvs, eget, env0, setD, lenStr, lenSl, isNilP, isNilS, putAt, if_true, if_false, reduceCtorEq, Nat.reduceLeDiff, Nat.reduceEqDiff, Nat.reduceSub, Nat.reduceMul, Nat.reduceAdd]
  obtain ⟨X, hX⟩ : ∃ X, X = s0.length := ⟨_, rfl⟩
  obtain ⟨B, hB⟩ : ∃ B, B = s0 ++ [Go.Ab.Obj.box [v0]] := ⟨_, rfl⟩
  have hBl : B.length = X + 1 := by rw [hB, hX]; simp
  have hBX : B[X]? = some (.box [v0]) := by rw [hB, hX]; simp
  have hBf : Own B (tSheetBlockS bs) v0 is1 := by rw [hB]; exact (Kp.app s0 _).own hf0
  have hBk : Kp σ B := by rw [hB]; exact kp_app2 K0
  have hB2 : B[σ.length + 1]? = some (.box [.nils]) := by rw [hB, List.getElem?_append_left (by omega)]; exact e2
  have hlv := own_len2 hf0
  simp only [lenSl, List.length_map] at hlv
  rw [← hB, ← hX]
  simp -implicitDefEqProofs only [hBX, hlv, S0, S1, S2, S3, S4, S5, S6, S7, S8, S9, S10, S11, S12, S13, S14, S15, S16, S17, opv, opvs, eget, env0, setD, lenStr, lenSl, isNilP, isNilS, putAt, if_true, if_false, reduceCtorEq, Nat.reduceLeDiff, Nat.reduceEqDiff, Nat.reduceSub, Nat.reduceMul, Nat.reduceAdd]
  refine loop_g [19, 2, 3, 18] [2, 3, 18] (fun g : Gb => [(19, .t (.int .i64 (g.i : Nat)))]) Gb.s (fun g => g.i ≤ bs.length ∧ Kp σ g.s ∧ X + 1 ≤ g.s.length ∧ Own g.s (tSheetBlockS (curB bs g.i)) v0 g.is ∧ Wi g.is (σ.length + 2) g.s.length ∧ g.s[X]? = some (.box [v0]) ∧ g.s[σ.length + 1]? = some (.box [.nils])) (fun g => bs.length - g.i) ⟨0, B, is1⟩ (by omega) ⟨Nat.zero_le _, hBk, by first | omega | (simp only; omega), by simpa [curB] using hBf, hw0.mono (by omega) (by simp only; omega), hBX, hB2⟩ rfl rfl ?_
  rintro ⟨i, s1, is⟩ ⟨hi, hkp, hle, ho, hw, eX, e2'⟩
  simp only at hi hkp hle ho hw eX e2'
  simp -implicitDefEqProofs only [keep, on0, S0, S1, S2, S3, S4, S5, S6, S7, S8, S9, S10, S11, S12, S13, S14, S15, S16, S17, opv, opvs, eget, env0, setD, lenStr, lenSl, isNilP, isNilS, putAt, if_true, if_false, reduceCtorEq, Nat.reduceLeDiff, Nat.reduceEqDiff, Nat.reduceSub, Nat.reduceMul, Nat.reduceAdd]
  refine cond_split (fun h1 => ?_) (fun h1 => ?_)
  · obtain ⟨b, hb, hlt⟩ := at_of h1
    have hbo := hbs.2 b (List.mem_of_getElem? hb)
    obtain ⟨hkd, hln⟩ := hbl b (List.mem_of_getElem? hb)
    have hl120 := lines_bnd hln
    have more := i64_succ (show i < 4611686018427387904 by omega)
    have hri : ((curB bs i).map SheetBlock.ts)[i]? = some b.ts := by rw [List.getElem?_map, cur_at hb]; rfl
    obtain ⟨id, rs, u, js, rest, hve, hob, hrsl, hru, hou, hperm, hback⟩ := own_row ho hri
    rw [List.length_map, cur_len] at hve hrsl
    subst hve
    have hnd := hperm.nodup_iff.1 hw.1
    have hidl := (List.getElem?_eq_some_iff.1 hob).1
    have hrestl : ∀ j ∈ rest, j < s1.length := fun j hj => ho.lt j (hperm.mem_iff.2 (by simp [hj]))
    simp only [SheetBlock.ts, OwnL] at hou
    obtain ⟨_, _, i1, j1, rfl, rfl, hs1, _, _, i2, j2, rfl, rfl, hs2, lv, _, i3, j3, rfl, rfl, hs3, rfl, rfl⟩ := hou
    simp only [Own] at hs1 hs2
    obtain ⟨rfl, rfl⟩ := hs1
    obtain ⟨rfl, rfl⟩ := hs2
    have hs3' : Own s1 (tSheetLineS b.Lines) lv i3 := hs3
    simp only [List.nil_append, List.append_nil] at hperm hnd hback
    obtain ⟨hn1, hn2⟩ := List.nodup_cons.1 hnd
    obtain ⟨hn3, hn4, hn5⟩ := List.nodup_append.1 hn2
    obtain ⟨L, hLx, hLq, hLa, hLn, hLj⟩ := lines_ql hs3' hn3
    have hLl : L.length = b.Lines.length := by rw [← hLx, List.length_map]
    have ol := hLq.one
    have kx : ((i : Nat) : Int) < ((bs.length : Nat) : Int) := by omega
    have hks : kindOk b.Kind = true := hkd
    simp -implicitDefEqProofs only [eX, hob, hrsl, hru, kx, ol, Nat.zero_add, nat_nn, Nat.zero_le, List.getElem?_map, Option.map_some, List.length_map, S0, S1, S2, S3, S4, S5, S6, S7, S8, S9, S10, S11, S12, S13, S14, S15, S16, S17, opv, opvs, eget, env0, setD, lenStr, lenSl, isNilP, isNilS, putAt, if_true, if_false, reduceCtorEq, Nat.reduceLeDiff, Nat.reduceEqDiff, Nat.reduceSub, Nat.reduceMul, Nat.reduceAdd]
    refine call_pure (impl_SheetRulesF b.Kind _) ?_
    obtain ⟨hn12, hsm⟩ := rules_small b.Kind
    rw [if_pos hks]
    simp -implicitDefEqProofs only [tSheetRuleS, List.length_map, S0, S1, S2, S3, S4, S5, S6, S7, S8, S9, S10, S11, S12, S13, S14, S15, S16, S17, opv, opvs, eget, env0, setD, lenStr, lenSl, isNilP, isNilS, putAt, if_true, if_false, reduceCtorEq, Nat.reduceLeDiff, Nat.reduceEqDiff, Nat.reduceSub, Nat.reduceMul, Nat.reduceAdd]
    refine loop_g [6, 32, 2, 3, 5, 18, 19, 30, 31] [2, 3, 5, 18, 19, 30, 31] (fun g : Gm => [(6, g.v), (32, .t (.int .i64 (g.j : Nat)))]) Gm.s (FM s1 L b.Kind b.Lines) (fun g => (rulesR b.Kind).length - g.j) ⟨0, .nils, s1, []⟩ (by omega) (FM.zero ..) rfl rfl ?_
    rintro ⟨j, v, s2, M⟩ hfm
    have hjle : j ≤ (rulesR b.Kind).length := hfm.le
    have hov : OVl s1 2 (M.map QL.row) v s2 := hfm.ov
    have hMl : M.length ≤ 1440 := hfm.len hl120
    have ov := hov.one
    have hkp2 := hov.kp
    have hle2 := hov.le
    have hob2 : s2[id]? = some (.slc 3 rs) := hkp2.box hob
    simp -implicitDefEqProofs only [keep, List.length_map, tSheetRuleS, S0, S1, S2, S3, S4, S5, S6, S7, S8, S9, S10, S11, S12, S13, S14, S15, S16, S17, opv, opvs, eget, env0, setD, lenStr, lenSl, isNilP, isNilS, putAt, if_true, if_false, reduceCtorEq, Nat.reduceLeDiff, Nat.reduceEqDiff, Nat.reduceSub, Nat.reduceMul, Nat.reduceAdd]
    refine cond_split (fun h3 => ?_) (fun h3 => ?_)
    · obtain ⟨r, hr, hltr⟩ := at_of h3
      have more2 := i64_succ (show j < 4611686018427387904 by omega)
      have c1 : 0 < 1 := by omega
      have c2 : 0 < 2 := by omega
      have hob2x : ∀ τ : Store, (s2 ++ τ)[id]? = some (.slc 3 rs) := fun τ => (Kp.app s2 τ).box hob2
      simp -implicitDefEqProofs only [hr, hob2, hob2x, hrsl, hru, kx, ol, Nat.zero_add, SheetRule.ts, SheetRule.vs, nat_nn, Nat.zero_le, List.getElem?_map, Option.map_some, List.length_map, S0, S1, S2, S3, S4, S5, S6, S7, S8, S9, S10, S11, S12, S13, S14, S15, S16, S17, opv, opvs, eget, env0, setD, lenStr, lenSl, isNilP, isNilS, putAt, if_true, if_false, reduceCtorEq, Nat.reduceLeDiff, Nat.reduceEqDiff, Nat.reduceSub, Nat.reduceMul, Nat.reduceAdd]
      obtain ⟨s3, hs3d⟩ : ∃ s3 : Store, s3 = s2 ++ [Go.Ab.Obj.box [.t (.str r.Key), .t (.lst 1 (r.Args.map tInt)), .t (.bool r.Many), .t (.lst 1 (r.Default.map tStr))]] := ⟨_, rfl⟩
      have k23 : Kp s2 s3 := by rw [hs3d]; exact Kp.app _ _
      have l23 : s3.length = s2.length + 1 := by rw [hs3d]; simp
      have bx3 : s3[s2.length]? = some (.box [.t (.str r.Key), .t (.lst 1 (r.Args.map tInt)), .t (.bool r.Many), .t (.lst 1 (r.Default.map tStr))]) := by rw [hs3d]; simp
      rw [← hs3d]
      refine call_by (by rw [List.append_nil]; exact impl_ofV b.Kind b.Name r.Key L (by omega) (ql_one hLa) lv s3 ((hLq.kp hkp2).kp k23)) ?_
      intro w s4 hov4
      have ow := hov4.one
      have lw := hov4.len
      simp only [lenSl, List.length_map] at lw
      have kp4 := hov4.kp
      have le4 := hov4.le
      have bx4 : s4[s2.length]? = some (.box [.t (.str r.Key), .t (.lst 1 (r.Args.map tInt)), .t (.bool r.Many), .t (.lst 1 (r.Default.map tStr))]) := kp4.box bx3
      have k24 : Kp s2 s4 := k23.trans (by omega) kp4
      have hrw := hov4.rowsOf
      have hof : (ofQ r.Key L).map QL.x = ofR r.Key b.Lines := by rw [ofQ_x, hLx]
      have hofl : (ofQ r.Key L).length = (ofR r.Key b.Lines).length := by rw [← hof, List.length_map]
      have hof120 : (ofQ r.Key L).length ≤ 120 := by rw [hofl]; exact Nat.le_trans (List.length_filter_le _ _) hl120
      have oth : stdOr r (ofR r.Key b.Lines) = ofR r.Key b.Lines → ∀ v' s6, s4.length ≤ s6.length → (∀ j, j < s4.length → (∀ g, v = .sl j g 0 g → False) → s6[j]? = s4[j]?) → OVl s1 2 (M.map QL.row ++ (ofQ r.Key L).map QL.row) v' s6 → FM s1 L b.Kind b.Lines ⟨j + 1, v', s6, M ++ ofQ r.Key L⟩ := fun hso v' s6 _ hkf hov6 =>
        hfm.next hr k24 (by omega) hkf hov6 (fun q hq => k24.own (hkp2.own (hLa q (List.mem_filter.1 hq).1))) (nodup_filter hLn) (hfm.disA hr hLn hLa) (fun q hq => .inl ⟨(List.mem_filter.1 hq).1, by simpa using (List.mem_filter.1 hq).2⟩) (by rw [hof, hso])
      simp -implicitDefEqProofs only [ow, lw, bx4, nat_nn, Nat.zero_le, List.getElem?_map, Option.map_some, List.length_map, S0, S1, S2, S3, S4, S5, S6, S7, S8, S9, S10, S11, S12, S13, S14, S15, S16, S17, opv, opvs, eget, env0, setD, lenStr, lenSl, isNilP, isNilS, putAt, if_true, if_false, reduceCtorEq, Nat.reduceLeDiff, Nat.reduceEqDiff, Nat.reduceSub, Nat.reduceMul, Nat.reduceAdd]
      refine cond_known (fun g1 => ?_) (fun g1 => ?_)
      · rcases hm : r.Many with _ | _
        · have hso : stdOr r (ofR r.Key b.Lines) = [⟨r.Key, r.Default⟩] := by rw [stdOr, if_pos (by rw [← hofl, g1, hm]; rfl)]
          simp -implicitDefEqProofs only [g1, hm, cond_t, cond_f, Bool.not_false, bx4, nat_nn, Nat.zero_le, List.getElem?_map, Option.map_some, List.length_map, S0, S1, S2, S3, S4, S5, S6, S7, S8, S9, S10, S11, S12, S13, S14, S15, S16, S17, opv, opvs, eget, env0, setD, lenStr, lenSl, isNilP, isNilS, putAt, if_true, if_false, reduceCtorEq, Nat.reduceLeDiff, Nat.reduceEqDiff, Nat.reduceSub, Nat.reduceMul, Nat.reduceAdd]
          have hst := impl_standard r (rules_d5 (List.mem_of_getElem? hr))
          simp only [SheetRule.vs, hm] at hst
          refine call_newL (hst _) ?_
          intro us s5 is5 hl5 kp5 ho5 hw5
          simp only [SheetLine.ts, OwnL] at ho5
          obtain ⟨_, _, a1, a2, rfl, rfl, hq1, w2, _, a3, a4, rfl, rfl, hq2, rfl, rfl⟩ := ho5
          simp only [Own] at hq1
          obtain ⟨rfl, rfl⟩ := hq1
          simp only [List.nil_append, List.append_nil] at hw5
          have ow2 := hq2.one
          have hrow : ∀ s' : Store, rowsOf s' 2 (.rows 2 [[V.t (.str r.Key), w2]]) = some [[V.t (.str r.Key), w2]] := fun s' => rowsOf_rows (by simp only [List.all_cons, List.all_nil, ow2, Bool.and_true]; rfl)
          simp -implicitDefEqProofs only [ow2, c1, c2, nat_nn, Nat.zero_le, List.getElem?_map, Option.map_some, List.length_map, S0, S1, S2, S3, S4, S5, S6, S7, S8, S9, S10, S11, S12, S13, S14, S15, S16, S17, opv, opvs, eget, env0, setD, lenStr, lenSl, isNilP, isNilS, putAt, if_true, if_false, reduceCtorEq, Nat.reduceLeDiff, Nat.reduceEqDiff, Nat.reduceSub, Nat.reduceMul, Nat.reduceAdd]
          refine lit_rows ?_
          simp -implicitDefEqProofs only [hrow, ov, ow2, S0, S1, S2, S3, S4, S5, S6, S7, S8, S9, S10, S11, S12, S13, S14, S15, S16, S17, opv, opvs, eget, env0, setD, lenStr, lenSl, isNilP, isNilS, putAt, if_true, if_false, reduceCtorEq, Nat.reduceLeDiff, Nat.reduceEqDiff, Nat.reduceSub, Nat.reduceMul, Nat.reduceAdd]
          have k25 : Kp s2 s5 := k24.trans (by omega) kp5
          refine (ovl_step hov k25 (by omega)).app (by simp only [List.length_map, List.length_cons, List.length_nil, maxBy]; omega) (by simp only [List.length_map, List.length_cons, List.length_nil]; omega) fun v' s6 hl6 hkf hv6 => ?_
          simp -implicitDefEqProofs only [more2, S0, S1, S2, S3, S4, S5, S6, S7, S8, S9, S10, S11, S12, S13, S14, S15, S16, S17, opv, opvs, eget, env0, setD, lenStr, lenSl, isNilP, isNilS, putAt, if_true, if_false, reduceCtorEq, Nat.reduceLeDiff, Nat.reduceEqDiff, Nat.reduceSub, Nat.reduceMul, Nat.reduceAdd]
          have hq2' : QL.at s5 ⟨⟨r.Key, r.Default⟩, w2, a3⟩ := hq2
          refine lk_g ⟨j + 1, v', s6, M ++ [⟨⟨r.Key, r.Default⟩, w2, a3⟩]⟩ (by simp only; omega) (hfm.next (N := [⟨⟨r.Key, r.Default⟩, w2, a3⟩]) hr k25 (by omega) hkf hv6 ?_ ?_ ?_ ?_ (by rw [hso]; rfl)) (by omega) rfl rfl
          · intro q hq
            obtain rfl := List.mem_singleton.1 hq
            exact hq2'
          · simpa using hw5.1
          · intro q hq p hp x hx hx2
            obtain rfl := List.mem_singleton.1 hp
            have h7 := (hfm.ats q hq).lt x hx
            have h8 := hw5.2 x hx2
            simp only at h7
            omega
          · intro q hq
            obtain rfl := List.mem_singleton.1 hq
            exact .inr fun x hx => by have := hw5.2 x hx; omega
        · have hso : stdOr r (ofR r.Key b.Lines) = ofR r.Key b.Lines := by rw [stdOr, if_neg (by rw [hm]; simp)]
          simp -implicitDefEqProofs only [g1, hm, cond_t, cond_f, Bool.not_true, bx4, ow, hrw, ov, nat_nn, Nat.zero_le, List.getElem?_map, Option.map_some, List.length_map, S0, S1, S2, S3, S4, S5, S6, S7, S8, S9, S10, S11, S12, S13, S14, S15, S16, S17, opv, opvs, eget, env0, setD, lenStr, lenSl, isNilP, isNilS, putAt, if_true, if_false, reduceCtorEq, Nat.reduceLeDiff, Nat.reduceEqDiff, Nat.reduceSub, Nat.reduceMul, Nat.reduceAdd]
          refine (ovl_step hov k24 (by omega)).app (by simp only [List.length_map, maxBy]; omega) (by simp only [List.length_map]; omega) fun v' s6 hl6 hkf hv6 => ?_
          simp -implicitDefEqProofs only [more2, S0, S1, S2, S3, S4, S5, S6, S7, S8, S9, S10, S11, S12, S13, S14, S15, S16, S17, opv, opvs, eget, env0, setD, lenStr, lenSl, isNilP, isNilS, putAt, if_true, if_false, reduceCtorEq, Nat.reduceLeDiff, Nat.reduceEqDiff, Nat.reduceSub, Nat.reduceMul, Nat.reduceAdd]
          exact lk_g ⟨j + 1, v', s6, M ++ ofQ r.Key L⟩ (by simp only; omega) (oth hso v' s6 hl6 hkf hv6) (by omega) rfl rfl
      · have hso : stdOr r (ofR r.Key b.Lines) = ofR r.Key b.Lines := by rw [stdOr, if_neg (by rw [← hofl, g1]; simp)]
        simp -implicitDefEqProofs only [g1, cond_t, cond_f, bx4, ow, hrw, ov, nat_nn, Nat.zero_le, List.getElem?_map, Option.map_some, List.length_map, S0, S1, S2, S3, S4, S5, S6, S7, S8, S9, S10, S11, S12, S13, S14, S15, S16, S17, opv, opvs, eget, env0, setD, lenStr, lenSl, isNilP, isNilS, putAt, if_true, if_false, reduceCtorEq, Nat.reduceLeDiff, Nat.reduceEqDiff, Nat.reduceSub, Nat.reduceMul, Nat.reduceAdd]
        refine (ovl_step hov k24 (by omega)).app (by simp only [List.length_map, maxBy]; omega) (by simp only [List.length_map]; omega) fun v' s6 hl6 hkf hv6 => ?_
        simp -implicitDefEqProofs only [more2, S0, S1, S2, S3, S4, S5, S6, S7, S8, S9, S10, S11, S12, S13, S14, S15, S16, S17, opv, opvs, eget, env0, setD, lenStr, lenSl, isNilP, isNilS, putAt, if_true, if_false, reduceCtorEq, Nat.reduceLeDiff, Nat.reduceEqDiff, Nat.reduceSub, Nat.reduceMul, Nat.reduceAdd]
        exact lk_g ⟨j + 1, v', s6, M ++ ofQ r.Key L⟩ (by simp only; omega) (oth hso v' s6 hl6 hkf hv6) (by omega) rfl rfl
    · have hjj := end_of h3 hjle
      obtain ⟨js, hoj, hjn, hjw⟩ := hfm.own
      simp only at hoj
      have hxs : M.map QL.x = (fillB b).Lines := by
        have := hfm.xs
        simp only at this
        rw [hjj, List.take_length] at this
        rw [this, fillB_law hln]; rfl
      rw [hxs] at hoj
      have hfb := fillB_law hln
      have hidr : id ∉ rest := fun h => hn1 (by simp [h])
      have hidj : id ∉ js := fun h => by
        rcases hjw id h with ⟨q, hq, hm⟩ | h
        · exact hn1 (by simp [hLj q hq id hm])
        · omega
      simp -implicitDefEqProofs only [hob2, hrsl, hru, kx, ov, one_cells ov, more, nat_nn, Nat.zero_le, List.getElem?_map, Option.map_some, List.length_map, S0, S1, S2, S3, S4, S5, S6, S7, S8, S9, S10, S11, S12, S13, S14, S15, S16, S17, opv, opvs, eget, env0, setD, lenStr, lenSl, isNilP, isNilS, putAt, if_true, if_false, reduceCtorEq, Nat.reduceLeDiff, Nat.reduceEqDiff, Nat.reduceSub, Nat.reduceMul, Nat.reduceAdd]
      obtain ⟨s6, hs6⟩ : ∃ s6 : Store, s6 = s2.set id (.slc 3 (rs.set i [.t (.str b.Kind), .t (.str b.Name), v])) := ⟨_, rfl⟩
      have l6 : s6.length = s2.length := by rw [hs6, List.length_set]
      have k6 : ∀ p, p ≠ id → s6[p]? = s2[p]? := fun p hp => by rw [hs6, List.getElem?_set_ne (fun e => hp e.symm)]
      obtain ⟨is6, ho6, hp6⟩ := hback s6 (fillB b).ts [.t (.str b.Kind), .t (.str b.Name), v] js (by rw [hs6]; exact List.getElem?_set_self (by omega)) (fun p hp => by rw [k6 p (fun e => hidr (e ▸ hp))]; exact hkp2 p (hrestl p hp)) (by
        have := blk_own (b := fillB b) (s := s6) (v := v) (js := js) (hoj.frame fun p hp => k6 p (fun e => hidj (e ▸ hp)))
        rwa [show (fillB b).Kind = b.Kind by rw [hfb], show (fillB b).Name = b.Name by rw [hfb]] at this)
      have hcs : ((curB bs i).map SheetBlock.ts).set i (fillB b).ts = (curB bs (i + 1)).map SheetBlock.ts := by rw [cur_step hb, List.map_set]
      rw [hcs] at ho6
      have nbx : ∀ p c, s1[p]? = some (Go.Ab.Obj.box c) → s6[p]? = some (Go.Ab.Obj.box c) := fun p c hp => by
        rw [k6 p (fun e => by rw [e, hob] at hp; cases hp)]; exact hkp2.box hp
      have w6 : Wi is6 (σ.length + 2) s6.length := by
        refine wi_perm hp6 ?_ fun p hp => ⟨?_, ho6.lt p (hp6.mem_iff.2 hp)⟩
        · refine List.nodup_cons.2 ⟨fun h => ?_, List.nodup_append.2 ⟨hjn, hn4, fun x hx y hy e => ?_⟩⟩
          · rcases List.mem_append.1 h with h | h
            · exact hidj h
            · exact hidr h
          · subst e
            rcases hjw x hx with ⟨q, hq, hm⟩ | h
            · exact hn5 x (hLj q hq x hm) x hy rfl
            · have := hrestl x hy; omega
        · have old : ∀ p, p ∈ id :: (i3 ++ rest) → σ.length + 2 ≤ p := fun p hp => (hw.2 p (hperm.mem_iff.2 hp)).1
          rcases List.mem_cons.1 hp with rfl | hp
          · exact old _ (by simp)
          · rcases List.mem_append.1 hp with hp | hp
            · rcases hjw p hp with ⟨q, hq, hm⟩ | h
              · exact old p (by simp [hLj q hq p hm])
              · omega
            · exact old p (by simp [hp])
      refine lk_g ⟨i + 1, s6, is6⟩ (by simp only; omega) ⟨by simp only; omega, fun p hp => ?_, by simp only; omega, ho6, w6, nbx _ _ eX, nbx _ _ e2'⟩ (by first | omega | (rw [← hs6]; omega) | (simp only [List.length_set]; omega)) (by rw [hs6]) rfl
      simp only
      rw [k6 p (fun e => by have := (hw.2 id (hperm.mem_iff.2 (by simp))).1; omega), hkp2 p (by omega)]
      exact hkp p hp
  · have hii := end_of h1 hi
    rw [hii, cur_all] at ho
    have e2t : ∀ o : Go.Ab.Obj, (s1.set (σ.length + 1) o)[σ.length + 1]? = some o := fun o => List.getElem?_set_self (by omega)
    simp -implicitDefEqProofs only [eX, e2', e2t, on0, one_cells on0, S0, S1, S2, S3, S4, S5, S6, S7, S8, S9, S10, S11, S12, S13, S14, S15, S16, S17, opv, opvs, eget, env0, setD, lenStr, lenSl, isNilP, isNilS, putAt, if_true, if_false, reduceCtorEq, Nat.reduceLeDiff, Nat.reduceEqDiff, Nat.reduceSub, Nat.reduceMul, Nat.reduceAdd]
    refine fin_keep (by simp; omega) ⟨[v0], _, is, rfl, kp_split (hkp.set (by omega)) (by simp; omega), ?_, hw.mono (by omega) (by simp)⟩
    rw [hts]
    simp only [OwnL]
    exact ⟨v0, [], is, [], rfl, by simp, set_own ho (own_box ho e2'), rfl, rfl⟩

end Go.Proofs.YtkppdeobinefbaaDoor.W

end


section
open Go Go.Ab
set_option maxHeartbeats 2000000
namespace Go.Proofs.YtkppdeobinefbaaDoor.W
theorem line_is {y : SheetLine} (hy : y.Ok) : T.isL shSheetLine y.ts := by
  simp only [SheetLine.ts, shSheetLine, isL_cons, isL_nil, is_str]
  exact ⟨_, _, rfl, ⟨_, rfl, by have := hy.Key; simp only [maxLen]; omega⟩, _, _, rfl, is_strs hy.Words.1 hy.Words.2, rfl⟩
theorem lines_is {l : List SheetLine} (h : SheetLine.OkS l) : T.is (.sl 2 shSheetLine) (tSheetLineS l) := by
  have := h.1
  simp only [tSheetLineS, T.is]
  refine ⟨_, rfl, by rw [List.length_map]; simp only [maxLen]; omega, fun r hr => ?_⟩
  obtain ⟨y, hy', rfl⟩ := List.mem_map.1 hr
  exact line_is (h.2 y hy')
theorem block_is {b : SheetBlock} (h : b.Ok) : T.isL shSheetBlock b.ts := by
  simp only [SheetBlock.ts]
  exact mkSheetBlock (by have := h.Kind; simp only [maxLen]; omega) (by have := h.Name; simp only [maxLen]; omega) (lines_is h.Lines)
theorem blocks_is {l : List SheetBlock} (h : SheetBlock.OkS l) : T.is (.sl 3 shSheetBlock) (tSheetBlockS l) := by
  have := h.1
  simp only [tSheetBlockS, T.is]
  refine ⟨_, rfl, by rw [List.length_map]; simp only [maxLen]; omega, fun r hr => ?_⟩
  obtain ⟨y, hy', rfl⟩ := List.mem_map.1 hr
  exact block_is (h.2 y hy')
theorem put_size (c : SheetBlock) (x : SheetLine) : T.sizeL (putR c x).ts = T.sizeL c.ts + 1 + T.sizeL x.ts := by
  have e : T.sizeR ((c.Lines.take (putIx c.Kind c.Lines x)).map SheetLine.ts) + T.sizeR ((c.Lines.drop (putIx c.Kind c.Lines x)).map SheetLine.ts) = T.sizeR (c.Lines.map SheetLine.ts) := by
    rw [← sizeR_app, ← List.map_append, List.take_append_drop]
  have l := put_len c x
  simp only [SheetBlock.ts, sizeSheetBlock, size_lst, List.length_map, l]
  simp only [putR, List.map_append, sizeR_app, List.map_cons, List.map_nil, sizeR_cons, sizeR_nil]
  omega
theorem std_size {kind : List UInt8} {r : SheetRule} (h : r ∈ rulesR kind) : T.sizeL (SheetLine.mk r.Key r.Default).ts ≤ 125 := by
  have hsmall := List.all_eq_true.1 (rules_small kind).2 r h
  simp only [ruleSmall, Bool.and_eq_true, decide_eq_true_eq, List.all_eq_true] at hsmall
  obtain ⟨⟨⟨⟨m1, m2⟩, m3⟩, m4⟩, m5⟩ := hsmall
  have hs5 := size_strs m5
  simp only [tStrs] at hs5
  simp only [SheetLine.ts, sizeSheetLine]
  omega
theorem step_size {kind : List UInt8} {r : SheetRule} (h : r ∈ rulesR kind) (c : SheetBlock) : T.sizeL (fillStep c r).ts ≤ T.sizeL c.ts + 126 := by
  unfold fillStep
  split
  · rw [put_size]
    have := std_size h
    omega
  · omega
theorem fill_size {kind : List UInt8} : ∀ (l : List SheetRule) (c : SheetBlock), (∀ r ∈ l, r ∈ rulesR kind) → T.sizeL (l.foldl fillStep c).ts ≤ T.sizeL c.ts + l.length * 126
  | [], c, _ => by simp
  | r :: l, c, h => by
    have h1 := fill_size l (fillStep c r) fun x hx => h x (by simp [hx])
    have h2 := step_size (h r (by simp)) c
    rw [List.foldl_cons, List.length_cons, Nat.succ_mul]
    omega
theorem fillB_size (b : SheetBlock) : T.sizeL (fillB b).ts ≤ T.sizeL b.ts + 1512 := by
  have h := fill_size (kind := b.Kind) (rulesR b.Kind) b fun _ h => h
  have := (rules_small b.Kind).1
  have := Nat.mul_le_mul_right 126 this
  rw [fillB]
  omega
theorem fills_size : ∀ l : List SheetBlock, T.sizeR ((l.map fillB).map SheetBlock.ts) ≤ T.sizeR (l.map SheetBlock.ts) + l.length * 1512
  | [] => by simp
  | b :: l => by
    have h1 := fills_size l
    have h2 := fillB_size b
    simp only [List.map_cons, sizeR_cons, List.length_cons, Nat.succ_mul]
    omega
def resT_SheetFill (s : Sheet) : List T := (fillS s).ts
theorem specF_SheetFill (s : Sheet) (hs : s.Ok) (σ : Store) : ACalls Tryd.prog 38 [.agg s.vs] σ fun rr σ' => rr = .agg ((resT_SheetFill s).map .t) ∧ σ' = σ := specF_SheetFill0 s hs σ
theorem implO_SheetFill (s : Sheet) (hs : s.Ok) (σ : Store) : ACalls Tryd.prog 39 [.agg s.vs] σ (ToLR (resT_SheetFill s) σ) := impl_SheetFill0 s hs σ
theorem res_SheetFill (s : Sheet) (h : T.isL shSheet s.ts) (z : T.sizeL s.ts ≤ 1048576) (o : s.Ok) : T.isL shSheet (resT_SheetFill s) ∧ T.sizeL (resT_SheetFill s) ≤ 8388608 := by
  unfold resT_SheetFill fillS
  split
  · rename_i hv
    obtain ⟨h60, hbl⟩ := sheet_blocks hv
    refine ⟨mkSheet (blocks_is ⟨by rw [List.length_map]; omega, fun y hy => ?_⟩), ?_⟩
    · obtain ⟨b, hb, rfl⟩ := List.mem_map.1 hy
      exact (fillB_facts (o.Blocks.2 b hb) (lines_bnd (hbl b hb).2)).1
    · have hs := fills_size s.Blocks
      unfold Sheet.ts at z ⊢
      rw [sizeSheet, size_lst, List.length_map] at z ⊢
      rw [List.length_map]
      have := Nat.mul_le_mul_right 1512 h60
      simp only
      omega
  · refine ⟨mkSheet (blocks_is ⟨by simp, by simp⟩), ?_⟩
    simp only [Sheet.ts, List.map_nil, sizeSheet, size_lst, sizeR_nil, List.length_nil]
    omega
end Go.Proofs.YtkppdeobinefbaaDoor.W

end
