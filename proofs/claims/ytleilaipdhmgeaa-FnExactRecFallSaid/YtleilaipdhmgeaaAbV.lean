/- Marks on values that are one's own, and how they are looked at again: lists, once for all element types. Conditions: none (a library of lemmas). -/
import Derived.Test.YtleilaipdhmgeaaAbT
set_option linter.unusedSimpArgs false
set_option linter.unusedVariables false
set_option linter.defProp false
namespace Go.Ab
section
variable (mt : Nat → List UInt8)
mutual
/-- A cell of an own slice's row, marked from k on; and the next mark. -/
def T.mk : Nat → T → T × Nat
  | k, .int kd _ => (.int kd (k : Nat), k + 1)
  | k, .bool _ => (.bool ((k : Int).tmod 3 == 0), k + 1)
  | k, .str _ => (.str (mt k), k + 1)
  | k, .lst sz rows => (.lst sz (T.mkR k rows).1, (T.mkR k rows).2)
def T.mkR : Nat → List (List T) → List (List T) × Nat
  | k, [] => ([], k)
  | k, r :: rows => ((T.mkL k r).1 :: (T.mkR (T.mkL k r).2 rows).1, (T.mkR (T.mkL k r).2 rows).2)
def T.mkL : Nat → List T → List T × Nat
  | k, [] => ([], k)
  | k, t :: ts => ((T.mk k t).1 :: (T.mkL (T.mk k t).2 ts).1, (T.mkL (T.mk k t).2 ts).2)
end
/-- A struct that came by value: only what its slices hold is marked. -/
def T.mkV : Nat → T → T × Nat
  | k, .lst sz rows => T.mk mt k (.lst sz rows)
  | k, t => (t, k)
def T.mkVL : Nat → List T → List T × Nat
  | k, [] => ([], k)
  | k, t :: ts => ((T.mkV mt k t).1 :: (T.mkVL (T.mkV mt k t).2 ts).1, (T.mkVL (T.mkV mt k t).2 ts).2)
end
section
variable {mt : Nat → List UInt8}
theorem mkc_int {k : Nat} {kd : IntKind} {n : Int} : T.mk mt k (.int kd n) = (.int kd (k : Nat), k + 1) := by simp only [T.mk]
theorem mkc_bool {k : Nat} {n : Bool} : T.mk mt k (.bool n) = (.bool ((k : Int).tmod 3 == 0), k + 1) := by simp only [T.mk]
theorem mkc_str {k : Nat} {n : List UInt8} : T.mk mt k (.str n) = (.str (mt k), k + 1) := by simp only [T.mk]
theorem mkc_lst {k sz : Nat} {rows : List (List T)} : T.mk mt k (.lst sz rows) = (.lst sz (T.mkR mt k rows).1, (T.mkR mt k rows).2) := by simp only [T.mk]
theorem mkR_nil {k : Nat} : T.mkR mt k [] = ([], k) := by simp only [T.mkR]
theorem mkR_cons {k : Nat} {r : List T} {rows : List (List T)} : T.mkR mt k (r :: rows) = ((T.mkL mt k r).1 :: (T.mkR mt (T.mkL mt k r).2 rows).1, (T.mkR mt (T.mkL mt k r).2 rows).2) := by simp only [T.mkR]
theorem mkL_nil {k : Nat} : T.mkL mt k [] = ([], k) := by simp only [T.mkL]
theorem mkL_cons {k : Nat} {t : T} {ts : List T} : T.mkL mt k (t :: ts) = ((T.mk mt k t).1 :: (T.mkL mt (T.mk mt k t).2 ts).1, (T.mkL mt (T.mk mt k t).2 ts).2) := by simp only [T.mkL]
attribute [irreducible] T.mk T.mkR T.mkL
theorem mkR_app {k : Nat} : ∀ {a b : List (List T)}, T.mkR mt k (a ++ b) = ((T.mkR mt k a).1 ++ (T.mkR mt (T.mkR mt k a).2 b).1, (T.mkR mt (T.mkR mt k a).2 b).2)
  | [], b => by simp [mkR_nil]
  | r :: a, b => by simp only [List.cons_append, mkR_cons, mkR_app (a := a) (b := b)]
theorem mkR_len {k : Nat} : ∀ {a : List (List T)}, (T.mkR mt k a).1.length = a.length
  | [] => by simp [mkR_nil]
  | r :: a => by simp only [mkR_cons, List.length_cons, mkR_len (a := a)]
mutual
theorem mk_le {k : Nat} : ∀ {t : T}, k ≤ (T.mk mt k t).2
  | .int _ _ => by rw [mkc_int]; exact Nat.le_succ _
  | .bool _ => by rw [mkc_bool]; exact Nat.le_succ _
  | .str _ => by rw [mkc_str]; exact Nat.le_succ _
  | .lst _ rows => by rw [mkc_lst]; exact mkR_le (rows := rows)
theorem mkR_le {k : Nat} : ∀ {rows : List (List T)}, k ≤ (T.mkR mt k rows).2
  | [] => by rw [mkR_nil]; exact Nat.le_refl _
  | r :: rows => by rw [mkR_cons]; exact Nat.le_trans (mkL_le (ts := r)) (mkR_le (rows := rows))
theorem mkL_le {k : Nat} : ∀ {ts : List T}, k ≤ (T.mkL mt k ts).2
  | [] => by rw [mkL_nil]; exact Nat.le_refl _
  | t :: ts => by rw [mkL_cons]; exact Nat.le_trans (mk_le (t := t)) (mkL_le (ts := ts))
end
theorem mkR_at {k i : Nat} {rows : List (List T)} {r : List T} (h : rows[i]? = some r) : (T.mkR mt k rows).1[i]? = some (T.mkL mt (T.mkR mt k (rows.take i)).2 r).1 := by
  have hi := (List.getElem?_eq_some_iff.1 h).1
  have e : T.mkR mt k rows = T.mkR mt k (rows.take i ++ r :: rows.drop (i + 1)) := by rw [← drop_of h, List.take_append_drop]
  rw [e, mkR_app, mkR_cons]
  simp only
  rw [List.getElem?_append_right (by rw [mkR_len, List.length_take]; omega), mkR_len, List.length_take, Nat.min_eq_left (by omega), Nat.sub_self]
  rfl
theorem mkR_step {k i : Nat} {rows : List (List T)} {r : List T} (h : rows[i]? = some r) : T.mkR mt k (rows.take (i + 1)) = ((T.mkR mt k (rows.take i)).1 ++ [(T.mkL mt (T.mkR mt k (rows.take i)).2 r).1], (T.mkL mt (T.mkR mt k (rows.take i)).2 r).2) := by
  rw [take_of h, mkR_app, mkR_cons, mkR_nil]
theorem mkR_take_le {k i : Nat} {rows : List (List T)} : (T.mkR mt k (rows.take i)).2 ≤ (T.mkR mt k rows).2 := by
  have e : T.mkR mt k rows = T.mkR mt k (rows.take i ++ rows.drop i) := by rw [List.take_append_drop]
  rw [e, mkR_app]
  exact mkR_le
end

theorem Own.set {σ : Store} {t : T} {u : V} {is : List Nat} {id : Nat} {o : Obj} (h : Own σ t u is) (hid : id ∉ is) : Own (σ.set id o) t u is :=
  h.frame fun i hi => List.getElem?_set_ne (fun e => hid (by rw [e]; exact hi))
theorem Own.other {σ σ' : Store} {t : T} {u : V} {is js : List Nat} (h : Own σ t u is) (hf : ∀ j, j < σ.length → j ∉ js → σ'[j]? = σ[j]?) (hd : ∀ j ∈ is, j ∉ js) : Own σ' t u is :=
  h.frame fun i hi => hf i (h.lt i hi) (hd i hi)
theorem OwnL.other {σ σ' : Store} {t : List T} {u : List V} {is js : List Nat} (h : OwnL σ t u is) (hf : ∀ j, j < σ.length → j ∉ js → σ'[j]? = σ[j]?) (hd : ∀ j ∈ is, j ∉ js) : OwnL σ' t u is :=
  h.frame fun i hi => hf i (h.lt i hi) (hd i hi)
theorem OwnR.split {σ : Store} : ∀ {a : List (List T)} {r : List T} {b : List (List T)} {rs : List (List V)} {js : List Nat}, OwnR σ (a ++ r :: b) rs js → ∃ ra u rb ja ji jb, rs = ra ++ u :: rb ∧ js = ja ++ (ji ++ jb) ∧ ra.length = a.length ∧ OwnR σ a ra ja ∧ OwnL σ r u ji ∧ OwnR σ b rb jb
  | [], r, b, rs, js, h => by
    simp only [List.nil_append, OwnR] at h
    obtain ⟨u, us, i, j, rfl, rfl, h1, h2⟩ := h
    exact ⟨[], u, us, [], i, j, rfl, rfl, rfl, by simp [OwnR], h1, h2⟩
  | x :: a, r, b, rs, js, h => by
    simp only [List.cons_append, OwnR] at h
    obtain ⟨u, us, i, j, rfl, rfl, h1, h2⟩ := h
    obtain ⟨ra, v, rb, ja, ji, jb, rfl, rfl, hl, k1, k2, k3⟩ := OwnR.split h2
    exact ⟨u :: ra, v, rb, i ++ ja, ji, jb, rfl, by simp, by simp [hl], by simp only [OwnR]; exact ⟨u, ra, i, ja, rfl, rfl, h1, k1⟩, k2, k3⟩
theorem OwnR.cons {σ : Store} {r : List T} {b : List (List T)} {u : List V} {rb : List (List V)} {i j : List Nat} (h : OwnL σ r u i) (k : OwnR σ b rb j) : OwnR σ (r :: b) (u :: rb) (i ++ j) := by
  simp only [OwnR]; exact ⟨u, rb, i, j, rfl, rfl, h, k⟩

/-- What marking leaves. -/
def MkR (t' : T) (k' : Nat) (u : V) (is : List Nat) (σ : Store) (r : V) (σ' : Store) : Prop := r = .t (.int .i64 (k' : Nat)) ∧ Own σ' t' u is ∧ σ.length ≤ σ'.length ∧ ∀ j, j < σ.length → j ∉ is → σ'[j]? = σ[j]?
def MkLR (t' : List T) (k' : Nat) (u : List V) (is : List Nat) (σ : Store) (r : V) (σ' : Store) : Prop := r = .t (.int .i64 (k' : Nat)) ∧ OwnL σ' t' u is ∧ σ.length ≤ σ'.length ∧ ∀ j, j < σ.length → j ∉ is → σ'[j]? = σ[j]?
def MarkOk (P : Program) (mt : Nat → List UInt8) (f : Nat) (c : Sh) : Prop := ∀ t u is k σ, T.is c t → t.size ≤ 1099511627776 → Own σ t u is → is.Nodup → 1 ≤ k → (T.mk mt k t).2 < 4611686018427387904 → ACalls P f [u, .t (.int .i64 (k : Nat))] σ (MkR (T.mk mt k t).1 (T.mk mt k t).2 u is σ)
def MarkLOk (P : Program) (mt : Nat → List UInt8) (f : Nat) (cs : List Sh) : Prop := ∀ ts us is k σ, T.isL cs ts → T.sizeL ts ≤ 1099511627776 → OwnL σ ts us is → is.Nodup → 1 ≤ k → (T.mkVL mt k ts).2 < 4611686018427387904 → ACalls P f [.agg us, .t (.int .i64 (k : Nat))] σ (MkLR (T.mkVL mt k ts).1 (T.mkVL mt k ts).2 us is σ)
def HeldR (k' : Nat) (σ : Store) (r : V) (σ' : Store) : Prop := r = .t (.int .i64 (k' : Nat)) ∧ σ' = σ
def HeldOk (P : Program) (mt : Nat → List UInt8) (f : Nat) (c : Sh) : Prop := ∀ t k σ, T.is c t → t.size ≤ 1099511627776 → 1 ≤ k → (T.mk mt k t).2 < 4611686018427387904 → ACalls P f [.t (T.mk mt k t).1, .t (.int .i64 (k : Nat))] σ (HeldR (T.mk mt k t).2 σ)
def HeldLOk (P : Program) (mt : Nat → List UInt8) (f : Nat) (cs : List Sh) : Prop := ∀ ts k σ, T.isL cs ts → T.sizeL ts ≤ 1099511627776 → 1 ≤ k → (T.mkVL mt k ts).2 < 4611686018427387904 → ACalls P f [.agg ((T.mkVL mt k ts).1.map .t), .t (.int .i64 (k : Nat))] σ (HeldR (T.mkVL mt k ts).2 σ)
def TextOk (P : Program) (mt : Nat → List UInt8) (f : Nat) : Prop := ∀ (k : Nat) σ, 1 ≤ k → k < 4611686018427387904 → ACalls P f [.t (.int .i64 (k : Nat))] σ fun r σ' => r = .t (.str (mt k)) ∧ σ' = σ

/-- What a round's code does to one row. -/
def RowMark (P : Program) (mt : Nat → List UInt8) (n : Nat) (body : C) (cs : List Sh) : Prop :=
  ∀ (b : Nat) (Q : Ex → St → Prop) (e : Env) (σ : Store) (id len i : Nat) (rs : List (List V)) (row : List T) (r : List V) (ji : List Nat) (k : Nat),
    eget e 0 = some (.sl id len 0 len) → eget e 5 = some (.t (.int .i64 (i : Nat))) → eget e 1 = some (.t (.int .i64 (k : Nat))) → rs.length = len → i < len → σ[id]? = some (.slc n rs) → rs[i]? = some r → T.isL cs row → T.sizeL row ≤ 1099511627776 → OwnL σ row r ji → (id :: ji).Nodup → 1 ≤ k → (T.mkL mt k row).2 < 4611686018427387904 →
    (∀ e' σ' r', eget e' 0 = some (.sl id len 0 len) → eget e' 5 = some (.t (.int .i64 (i : Nat))) → eget e' 1 = some (.t (.int .i64 ((T.mkL mt k row).2 : Nat))) → σ'[id]? = some (.slc n (rs.set i r')) → OwnL σ' (T.mkL mt k row).1 r' ji → σ.length ≤ σ'.length → (∀ j, j < σ.length → j ∉ id :: ji → σ'[j]? = σ[j]?) → Q .n ⟨.go, e', σ'⟩) →
    vc P b body Q ⟨.go, e, σ⟩
def RowHeld (P : Program) (mt : Nat → List UInt8) (n : Nat) (body : C) (cs : List Sh) : Prop :=
  ∀ (b : Nat) (Q : Ex → St → Prop) (e : Env) (σ : Store) (i : Nat) (rows : List (List T)) (row : List T) (k : Nat),
    eget e 0 = some (.t (.lst n rows)) → eget e 5 = some (.t (.int .i64 (i : Nat))) → eget e 1 = some (.t (.int .i64 (k : Nat))) → rows[i]? = some (T.mkL mt k row).1 → T.isL cs row → T.sizeL row ≤ 1099511627776 → 1 ≤ k → (T.mkL mt k row).2 < 4611686018427387904 →
    (∀ e', eget e' 0 = some (.t (.lst n rows)) → eget e' 5 = some (.t (.int .i64 (i : Nat))) → eget e' 1 = some (.t (.int .i64 ((T.mkL mt k row).2 : Nat))) → Q .n ⟨.go, e', σ⟩) →
    vc P b body Q ⟨.go, e, σ⟩

def tMarkS (z : Nat) (body : C) : C := (.seq (.ops [⟨(some 4), none, (.mv (.c (.t (.int .i64 0))))⟩]) (.seq (.seq (.ops [⟨(some 5), none, (.mv (.c (.t (.int .i64 0))))⟩]) (.block 0 (.loop (.seq (.seq (.ops [⟨(some 6), none, (.mv (.t 5))⟩, ⟨(some 7), none, (.mv (.t 0))⟩, ⟨(some 8), none, (.len false (.t 7))⟩, ⟨(some 9), none, (.bin .lss (.t 6) (.t 8))⟩]) (.cond (.t 9) .skip (.exit 0))) (.seq (.block 1 body) (.ops [⟨(some 10), none, (.mv (.t 5))⟩, ⟨(some 11), none, (.bin .add (.t 10) (.c (.t (.int .i64 1))))⟩, ⟨(some 5), none, (.mv (.t 11))⟩])))))) (.seq (.ops [⟨(some z), none, (.mv (.t 1))⟩, ⟨(some 4), none, (.mv (.t z))⟩]) .ret)))

section
variable {P : Program} {mt : Nat → List UInt8} {g n nt z : Nat} {cs : List Sh} {body : C}
theorem keep2 {e : Env} {a b : Nat} {u v : V} (h1 : eget e a = some u) (h2 : eget e b = some v) : keep [a, b] e = [(a, u), (b, v)] := by simp [keep, h1, h2]
theorem keep3 {e : Env} {a b c : Nat} {u v w : V} (h1 : eget e a = some u) (h2 : eget e b = some v) (h3 : eget e c = some w) : keep [a, b, c] e = [(a, u), (b, v), (c, w)] := by simp [keep, h1, h2, h3]

theorem markS_ok (hn : cs.length = n) (hz : 11 < z) (hnt : 2 ≤ nt) (hi : Is P g nt [.tmp 4] (tMarkS z body)) (hrow : RowMark P mt n body cs) : MarkOk P mt g (.sl n cs) := by
  rintro t u is k σ ht hsz ho hnd hk hlt
  simp only [T.is] at ht
  obtain ⟨rows, rfl, hl, hr⟩ := ht
  refine acalls_is hi (by simpa using hnt) (fun hσ => ?_)
  rw [size_lst] at hsz
  rw [mkc_lst] at hlt ⊢
  simp only at hlt ⊢
  have z0 : decide ((0 : Int) < ((0 : Nat) : Int)) = false := by decide
  have zz : (z = 1) = False := by simp; omega
  have zz4 : ((4 : Nat) = z) = False := by simp; omega
  have zz5 : ((1 : Nat) = z) = False := by simp; omega
  have ho' := ho
  simp only [Own] at ho
  obtain ⟨hp, ⟨rfl, rfl, rfl | rfl⟩ | ⟨id, js, rs, rfl, rfl, h1, h2⟩⟩ := ho
  · simp -implicitDefEqProofs only [tMarkS, S0, S1, S2, S3, S4, S5, S6, S7, S8, S9, S10, S11, S12, S13, S14, S15, opv, opvs, eget, env0, setD, lenStr, lenSl, isNilP, isNilS, putAt, if_true, if_false, reduceCtorEq, Nat.reduceLeDiff, Nat.reduceEqDiff, Nat.reduceSub, Nat.reduceMul, Nat.reduceAdd]
    refine loop_p [0, 1, 5] [0, 1, 5] (fun x : Unit => []) (fun _ => True) (fun _ => 0) () (Nat.le_refl _) trivial rfl ?_
    rintro _ _
    simp -implicitDefEqProofs only [keep, z0, zz, zz4, zz5, S0, S1, S2, S3, S4, S5, S6, S7, S8, S9, S10, S11, S12, S13, S14, S15, opv, opvs, eget, env0, setD, lenStr, lenSl, isNilP, isNilS, putAt, if_true, if_false, reduceCtorEq, Nat.reduceLeDiff, Nat.reduceEqDiff, Nat.reduceSub, Nat.reduceMul, Nat.reduceAdd]
    refine ret_same0 rfl ⟨?_, by simpa [mkR_nil, mkRes] using ho', Nat.le_refl _, fun _ _ _ => rfl⟩
    simp [mkRes, mkR_nil]
  · simp -implicitDefEqProofs only [tMarkS, S0, S1, S2, S3, S4, S5, S6, S7, S8, S9, S10, S11, S12, S13, S14, S15, opv, opvs, eget, env0, setD, lenStr, lenSl, isNilP, isNilS, putAt, if_true, if_false, reduceCtorEq, Nat.reduceLeDiff, Nat.reduceEqDiff, Nat.reduceSub, Nat.reduceMul, Nat.reduceAdd]
    refine loop_p [0, 1, 5] [0, 1, 5] (fun x : Unit => []) (fun _ => True) (fun _ => 0) () (Nat.le_refl _) trivial rfl ?_
    rintro _ _
    simp -implicitDefEqProofs only [keep, z0, zz, zz4, zz5, S0, S1, S2, S3, S4, S5, S6, S7, S8, S9, S10, S11, S12, S13, S14, S15, opv, opvs, eget, env0, setD, lenStr, lenSl, isNilP, isNilS, putAt, if_true, if_false, reduceCtorEq, Nat.reduceLeDiff, Nat.reduceEqDiff, Nat.reduceSub, Nat.reduceMul, Nat.reduceAdd]
    refine ret_same0 rfl ⟨?_, by simpa [mkR_nil, mkRes] using ho', Nat.le_refl _, fun _ _ _ => rfl⟩
    simp [mkRes, mkR_nil]
  · simp -implicitDefEqProofs only [tMarkS, S0, S1, S2, S3, S4, S5, S6, S7, S8, S9, S10, S11, S12, S13, S14, S15, opv, opvs, eget, env0, setD, lenStr, lenSl, isNilP, isNilS, putAt, if_true, if_false, reduceCtorEq, Nat.reduceLeDiff, Nat.reduceEqDiff, Nat.reduceSub, Nat.reduceMul, Nat.reduceAdd]
    have hlen := h2.len
    refine loop_g [1, 5, 0] [0] (fun x : Nat × Store × List (List V) => [(1, .t (.int .i64 ((T.mkR mt k (rows.take x.1)).2 : Nat))), (5, .t (.int .i64 (x.1 : Nat)))]) (fun x => x.2.1)
      (fun x => x.1 ≤ rows.length ∧ x.2.2.length = rows.length ∧ x.2.1[id]? = some (.slc n x.2.2) ∧ OwnR x.2.1 ((T.mkR mt k (rows.take x.1)).1 ++ rows.drop x.1) x.2.2 js ∧ σ.length ≤ x.2.1.length ∧ ∀ j, j < σ.length → j ∉ id :: js → x.2.1[j]? = σ[j]?)
      (fun x => rows.length - x.1) (0, σ, rs) (Nat.le_refl _) ⟨Nat.zero_le _, hlen, h1, by simpa [mkR_nil] using h2, Nat.le_refl _, fun j _ _ => rfl⟩ rfl (by simp [keep, eget, mkR_nil]) ?_
    rintro ⟨i, s, rs'⟩ ⟨hi', hl', hs, hO, hsl, hfr⟩
    simp only at hi' hl' hs hO hsl hfr
    simp -implicitDefEqProofs only [keep, hlen, S0, S1, S2, S3, S4, S5, S6, S7, S8, S9, S10, S11, S12, S13, S14, S15, opv, opvs, eget, env0, setD, lenStr, lenSl, isNilP, isNilS, putAt, if_true, if_false, reduceCtorEq, Nat.reduceLeDiff, Nat.reduceEqDiff, Nat.reduceSub, Nat.reduceMul, Nat.reduceAdd]
    refine cond_split (fun hc => ?_) (fun hc => ?_)
    · obtain ⟨row, hx, hlt2⟩ := at_of hc
      have hA : (T.mkR mt k (rows.take i)).1.length = i := by rw [mkR_len, List.length_take]; omega
      rw [drop_of hx] at hO
      obtain ⟨ra, u, rb, ja, ji, jb, rfl, rfl, hra, k1, k2, k3⟩ := hO.split
      rw [hA] at hra
      have hstep := mkR_step (mt := mt) (k := k) hx
      have hle := mkR_take_le (mt := mt) (k := k) (i := i + 1) (rows := rows)
      rw [hstep] at hle
      simp only at hle
      simp only [List.nodup_cons, List.nodup_append, List.mem_append, not_or] at hnd
      obtain ⟨⟨n1, n2, n3⟩, n4, ⟨n5, n6, n7⟩, n8⟩ := hnd
      simp -implicitDefEqProofs only [S0, S1, S2, S3, S4, S5, S6, S7, S8, S9, S10, S11, S12, S13, S14, S15, opv, opvs, eget, env0, setD, lenStr, lenSl, isNilP, isNilS, putAt, if_true, if_false, reduceCtorEq, Nat.reduceLeDiff, Nat.reduceEqDiff, Nat.reduceSub, Nat.reduceMul, Nat.reduceAdd]
      refine hrow _ _ _ s id _ i _ row u ji _ rfl rfl rfl hl' (by omega) hs (by rw [← hra]; simp) (hr row (mem_at hx)) (by have := sizeR_get hx; omega) k2 (List.nodup_cons.2 ⟨n2, n5⟩) (Nat.le_trans hk mkR_le) (by omega) ?_
      intro e' s' r' g0 g5 g1 q1 q2 q3 q4
      simp -implicitDefEqProofs only [g0, g5, g1, i64_succ (show i < 4611686018427387904 by omega), S0, S1, S2, S3, S4, S5, S6, S7, S8, S9, S10, S11, S12, S13, S14, S15, opv, opvs, eget, env0, setD, lenStr, lenSl, isNilP, isNilS, putAt, if_true, if_false, reduceCtorEq, Nat.reduceLeDiff, Nat.reduceEqDiff, Nat.reduceSub, Nat.reduceMul, Nat.reduceAdd]
      have more := i64_succ (show i < 4611686018427387904 by omega)
      have hset : (ra ++ u :: rb).set i r' = ra ++ r' :: rb := by rw [← hra, List.set_append_right _ _ (Nat.le_refl _), Nat.sub_self]; rfl
      rw [hset] at q1
      refine lk_g (i + 1, s', ra ++ r' :: rb) (by simp only; omega) ⟨by simp only; omega, by simpa using hl', q1, ?_, by simp only; omega, fun j hj hj2 => ?_⟩ (by omega) rfl (by simp [keep, eget, g0, g1, g5, hstep, more])
      · simp only [hstep]
        rw [List.append_assoc]
        refine OwnR.app (k1.frame fun j hj => q4 j (k1.lt j hj) ?_) (OwnR.cons q2 (k3.frame fun j hj => q4 j (k3.lt j hj) ?_))
        · simp only [List.mem_cons, not_or]
          exact ⟨fun e => n1 (e ▸ hj), fun h => n8 j hj j (Or.inl h) rfl⟩
        · simp only [List.mem_cons, not_or]
          exact ⟨fun e => n3 (e ▸ hj), fun h => n7 j h j hj rfl⟩
      · simp only [List.mem_cons, List.mem_append, not_or] at hj2
        rw [q4 j (by omega) (by simp only [List.mem_cons, not_or]; exact ⟨hj2.1, hj2.2.2.1⟩), hfr j hj (by simp only [List.mem_cons, List.mem_append, not_or]; exact hj2)]
    · have hii := end_of hc hi'
      rw [hii, List.take_length, List.drop_length, List.append_nil] at hO
      simp -implicitDefEqProofs only [zz, zz4, zz5, S0, S1, S2, S3, S4, S5, S6, S7, S8, S9, S10, S11, S12, S13, S14, S15, opv, opvs, eget, env0, setD, lenStr, lenSl, isNilP, isNilS, putAt, if_true, if_false, reduceCtorEq, Nat.reduceLeDiff, Nat.reduceEqDiff, Nat.reduceSub, Nat.reduceMul, Nat.reduceAdd]
      refine fin_keep (by omega) ⟨?_, ?_, hsl, hfr⟩
      · simp [mkRes, hii]
      · simp only [Own]
        exact ⟨hp, .inr ⟨id, js, rs', rfl, by rw [hl'], hs, hO⟩⟩
theorem heldS_ok (hn : cs.length = n) (hz : 11 < z) (hnt : 2 ≤ nt) (hi : Is P g nt [.tmp 4] (tMarkS z body)) (hrow : RowHeld P mt n body cs) : HeldOk P mt g (.sl n cs) := by
  rintro t k σ ht hsz hk hlt
  simp only [T.is] at ht
  obtain ⟨rows, rfl, hl, hr⟩ := ht
  refine acalls_is hi (by simpa using hnt) (fun hσ => ?_)
  rw [size_lst] at hsz
  rw [mkc_lst] at hlt ⊢
  simp only at hlt ⊢
  have zz : (z = 1) = False := by simp; omega
  have zz4 : ((4 : Nat) = z) = False := by simp; omega
  have zz5 : ((1 : Nat) = z) = False := by simp; omega
  have hlen := mkR_len (mt := mt) (k := k) (a := rows)
  simp -implicitDefEqProofs only [tMarkS, S0, S1, S2, S3, S4, S5, S6, S7, S8, S9, S10, S11, S12, S13, S14, S15, opv, opvs, eget, env0, setD, lenStr, lenSl, isNilP, isNilS, putAt, if_true, if_false, reduceCtorEq, Nat.reduceLeDiff, Nat.reduceEqDiff, Nat.reduceSub, Nat.reduceMul, Nat.reduceAdd]
  refine loop_p [1, 5, 0] [0] (fun x : Nat => [(1, .t (.int .i64 ((T.mkR mt k (rows.take x)).2 : Nat))), (5, .t (.int .i64 (x : Nat)))]) (fun x => x ≤ rows.length) (fun x => rows.length - x) 0 (Nat.le_refl _) (Nat.zero_le _) (by simp [keep, eget, mkR_nil]) ?_
  rintro i hi'
  simp -implicitDefEqProofs only [keep, hlen, S0, S1, S2, S3, S4, S5, S6, S7, S8, S9, S10, S11, S12, S13, S14, S15, opv, opvs, eget, env0, setD, lenStr, lenSl, isNilP, isNilS, putAt, if_true, if_false, reduceCtorEq, Nat.reduceLeDiff, Nat.reduceEqDiff, Nat.reduceSub, Nat.reduceMul, Nat.reduceAdd]
  refine cond_split (fun hc => ?_) (fun hc => ?_)
  · obtain ⟨row, hx, hlt2⟩ := at_of hc
    have hstep := mkR_step (mt := mt) (k := k) hx
    have hle := mkR_take_le (mt := mt) (k := k) (i := i + 1) (rows := rows)
    rw [hstep] at hle
    simp only at hle
    simp -implicitDefEqProofs only [S0, S1, S2, S3, S4, S5, S6, S7, S8, S9, S10, S11, S12, S13, S14, S15, opv, opvs, eget, env0, setD, lenStr, lenSl, isNilP, isNilS, putAt, if_true, if_false, reduceCtorEq, Nat.reduceLeDiff, Nat.reduceEqDiff, Nat.reduceSub, Nat.reduceMul, Nat.reduceAdd]
    refine hrow _ _ _ σ i (T.mkR mt k rows).1 row _ rfl rfl rfl (mkR_at hx) (hr row (mem_at hx)) (by have := sizeR_get hx; omega) (Nat.le_trans hk mkR_le) (by omega) ?_
    intro e' g0 g5 g1
    have more := i64_succ (show i < 4611686018427387904 by omega)
    simp -implicitDefEqProofs only [g0, g5, g1, more, S0, S1, S2, S3, S4, S5, S6, S7, S8, S9, S10, S11, S12, S13, S14, S15, opv, opvs, eget, env0, setD, lenStr, lenSl, isNilP, isNilS, putAt, if_true, if_false, reduceCtorEq, Nat.reduceLeDiff, Nat.reduceEqDiff, Nat.reduceSub, Nat.reduceMul, Nat.reduceAdd]
    exact lk_p0 (i + 1) (Nat.le_refl _) rfl (by omega) (by omega) (by simp [keep, eget, g0, g1, g5, hstep, more])
  · have hii := end_of hc hi'
    simp -implicitDefEqProofs only [zz, zz4, zz5, S0, S1, S2, S3, S4, S5, S6, S7, S8, S9, S10, S11, S12, S13, S14, S15, opv, opvs, eget, env0, setD, lenStr, lenSl, isNilP, isNilS, putAt, if_true, if_false, reduceCtorEq, Nat.reduceLeDiff, Nat.reduceEqDiff, Nat.reduceSub, Nat.reduceMul, Nat.reduceAdd]
    refine ret_same0 rfl ⟨?_, rfl⟩
    simp [mkRes, hii]

theorem ownL_cons {σ : Store} {t : T} {ts : List T} {us : List V} {is : List Nat} : OwnL σ (t :: ts) us is = ∃ u us' i j, us = u :: us' ∧ is = i ++ j ∧ Own σ t u i ∧ OwnL σ ts us' j := by simp only [OwnL]
theorem ownL_nil {σ : Store} {us : List V} {is : List Nat} : OwnL σ [] us is = (us = [] ∧ is = []) := by simp only [OwnL]
theorem own_int {σ : Store} {k : IntKind} {n : Int} {v : V} {is : List Nat} : Own σ (.int k n) v is = (v = .t (.int k n) ∧ is = []) := by simp only [Own]
theorem own_bool {σ : Store} {n : Bool} {v : V} {is : List Nat} : Own σ (.bool n) v is = (v = .t (.bool n) ∧ is = []) := by simp only [Own]
theorem own_str {σ : Store} {n : List UInt8} {v : V} {is : List Nat} : Own σ (.str n) v is = (v = .t (.str n) ∧ is = []) := by simp only [Own]
theorem oc_int {σ : Store} {k : IntKind} {m : Int} {ts : List T} {us : List V} {is : List Nat} (h : OwnL σ (.int k m :: ts) us is) : ∃ us', us = .t (.int k m) :: us' ∧ OwnL σ ts us' is := by
  rw [ownL_cons] at h; obtain ⟨u, us', i, j, rfl, rfl, h1, h2⟩ := h; rw [own_int] at h1; obtain ⟨rfl, rfl⟩ := h1; exact ⟨us', rfl, h2⟩
theorem oc_bool {σ : Store} {m : Bool} {ts : List T} {us : List V} {is : List Nat} (h : OwnL σ (.bool m :: ts) us is) : ∃ us', us = .t (.bool m) :: us' ∧ OwnL σ ts us' is := by
  rw [ownL_cons] at h; obtain ⟨u, us', i, j, rfl, rfl, h1, h2⟩ := h; rw [own_bool] at h1; obtain ⟨rfl, rfl⟩ := h1; exact ⟨us', rfl, h2⟩
theorem oc_str {σ : Store} {m : List UInt8} {ts : List T} {us : List V} {is : List Nat} (h : OwnL σ (.str m :: ts) us is) : ∃ us', us = .t (.str m) :: us' ∧ OwnL σ ts us' is := by
  rw [ownL_cons] at h; obtain ⟨u, us', i, j, rfl, rfl, h1, h2⟩ := h; rw [own_str] at h1; obtain ⟨rfl, rfl⟩ := h1; exact ⟨us', rfl, h2⟩
theorem oc_lst {σ : Store} {t : T} {ts : List T} {us : List V} {is : List Nat} (h : OwnL σ (t :: ts) us is) : ∃ u us' i j, us = u :: us' ∧ is = i ++ j ∧ Own σ t u i ∧ OwnL σ ts us' j := by
  rw [ownL_cons] at h; exact h
theorem oc_nil {σ : Store} {us : List V} {is : List Nat} (h : OwnL σ [] us is) : us = [] ∧ is = [] := by rw [ownL_nil] at h; exact h
theorem mkV_sl {k m : Nat} {t : T} (h : T.is (.sl m cs) t) : T.mkV mt k t = T.mk mt k t := by
  simp only [T.is] at h; obtain ⟨rows, rfl, _⟩ := h; simp only [T.mkV]
theorem mkV_int {k : Nat} {kd : IntKind} {m : Int} : T.mkV mt k (.int kd m) = (.int kd m, k) := by simp only [T.mkV]
theorem mkV_bool {k : Nat} {m : Bool} : T.mkV mt k (.bool m) = (.bool m, k) := by simp only [T.mkV]
theorem mkV_str {k : Nat} {m : List UInt8} : T.mkV mt k (.str m) = (.str m, k) := by simp only [T.mkV]
theorem mkVL_nil {k : Nat} : T.mkVL mt k [] = ([], k) := by simp only [T.mkVL]
theorem mkVL_cons {k : Nat} {t : T} {ts : List T} : T.mkVL mt k (t :: ts) = ((T.mkV mt k t).1 :: (T.mkVL mt (T.mkV mt k t).2 ts).1, (T.mkVL mt (T.mkV mt k t).2 ts).2) := by simp only [T.mkVL]
theorem mkVL_app {k : Nat} : ∀ {a b : List T}, T.mkVL mt k (a ++ b) = ((T.mkVL mt k a).1 ++ (T.mkVL mt (T.mkVL mt k a).2 b).1, (T.mkVL mt (T.mkVL mt k a).2 b).2)
  | [], b => by simp [mkVL_nil]
  | r :: a, b => by simp only [List.cons_append, mkVL_cons, mkVL_app (a := a) (b := b)]
theorem nat_neg (k : Nat) : decide (((k : Nat) : Int) < 0) = false := by simp
theorem nd_app {a b : List Nat} (h : (a ++ b).Nodup) : a.Nodup ∧ b.Nodup ∧ (∀ x ∈ a, x ∉ b) ∧ ∀ x ∈ b, x ∉ a := by
  rw [List.nodup_append] at h
  exact ⟨h.1, h.2.1, fun x hx hy => h.2.2 x hx x hy rfl, fun x hx hy => h.2.2 x hy x hx rfl⟩
end
end Go.Ab
