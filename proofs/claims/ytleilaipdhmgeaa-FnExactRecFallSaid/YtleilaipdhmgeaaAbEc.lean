/- That each operation of the model does what its instruction says: maps, structs that are compared, interface values, functions, copies. Conditions: none (a library of lemmas). -/
import Derived.Test.YtleilaipdhmgeaaAbEb
import Derived.Laws.StructEq
set_option linter.unusedSimpArgs false
set_option linter.unusedVariables false
set_option linter.defProp false
namespace Go.Ab
section
variable {P : Program} {x : Cx} {e : Env} {a : Act}

/-! ### scalars -/
theorem fit_val {s : SK} {u : V} {v : Value} (h : s.fit u = true) (hr : VRel x u v) : (∃ k n, s = .int k ∧ u = .t (.int k n) ∧ v = .int k n) ∨ (∃ b, s = .bool ∧ u = .t (.bool b) ∧ v = .bool b) ∨ ∃ t, s = .str ∧ u = .t (.str t) ∧ v = .string ⟨t.toArray⟩ := by
  unfold SK.fit at h
  split at h
  · simp only [decide_eq_true_eq] at h
    subst h
    exact .inl ⟨_, _, rfl, rfl, by simpa [VRel, TRel] using hr⟩
  · exact .inr (.inl ⟨_, rfl, rfl, by simpa [VRel, TRel] using hr⟩)
  · exact .inr (.inr ⟨_, rfl, rfl, by simpa [VRel, TRel] using hr⟩)
  · cases h

theorem str_beq (s t : List UInt8) : ((⟨s.toArray⟩ : ByteArray) == ⟨t.toArray⟩) = (s == t) := by
  show ((s.toArray : Array UInt8) == t.toArray) = (s == t)
  by_cases h : s = t
  · subst h; simp
  · simp [h]
theorem str_beq' (s t : List UInt8) : ((⟨s.toArray⟩ : ByteArray).toList == (⟨t.toArray⟩ : ByteArray).toList) = (s == t) := by
  rw [← beq_toListBytes, str_beq]

def SK.desc : SK → TypeDesc
  | .int k => .int k
  | .bool => .bool
  | .str => .string
theorem skOf_under {t : TypeId} {s : SK} (h : skOf P t = some s) : P.underlying t = some s.desc := by
  unfold skOf at h
  split at h <;> first | (obtain rfl := Option.some.inj h; assumption) | cases h

theorem eq_scalar {t : TypeId} {s : SK} (hs : skOf P t = some s) {u u' : V} {v v' : Value} (h : s.fit u = true) (h' : s.fit u' = true) (hr : VRel x u v) (hr' : VRel x u' v') (d : Nat) (w : World) :
    (Op.equalIn (d + 1) t v v').run P w = .ok (sEq u u') w := by
  have hu := skOf_under hs
  rcases fit_val h hr with ⟨k, n, rfl, rfl, rfl⟩ | ⟨b, rfl, rfl, rfl⟩ | ⟨c, rfl, rfl, rfl⟩
  · rcases fit_val h' hr' with ⟨k', n', e1, rfl, rfl⟩ | ⟨_, e1, _⟩ | ⟨_, e1, _⟩
    · cases e1
      exact run_equalIn_int w d t k k n n' hu
    · cases e1
    · cases e1
  · rcases fit_val h' hr' with ⟨k', n', e1, rfl, rfl⟩ | ⟨b', e1, rfl, rfl⟩ | ⟨_, e1, _⟩
    · cases e1
    · exact run_equalIn_bool' w d t b b' hu
    · cases e1
  · rcases fit_val h' hr' with ⟨k', n', e1, rfl, rfl⟩ | ⟨b', e1, rfl, rfl⟩ | ⟨c', e1, rfl, rfl⟩
    · cases e1
    · cases e1
    · rw [run_equalIn_string w d t _ _ hu, str_beq']; rfl

theorem agg_scalar {t : TypeId} {s : SK} (hs : skOf P t = some s) (w : World) : (isAgg t).run P w = .ok false w := by
  rw [run_isAgg (skOf_under hs)]
  cases s <;> rfl

/-! ### flat structs -/
theorem sks_cons {i : Nat} {f : Field} {fs : List Field} {ks : List SK} (h : sksOf P i (f :: fs) = some ks) : ∃ k ks', ks = k :: ks' ∧ skOf P f.type = some k ∧ sksOf P (i + 1) fs = some ks' ∧ f.offset = i ∧ f.name ≠ "_" := by
  simp only [sksOf] at h
  split at h
  · split at h
    · rename_i k ks' h1 h2 h3
      obtain rfl := Option.some.inj h
      exact ⟨k, ks', rfl, h1, h2, h3.1, by simpa using h3.2⟩
    · cases h
  · cases h
theorem fits_cons {k : SK} {ks : List SK} {us : List V} (h : fits (k :: ks) us = true) : ∃ u us', us = u :: us' ∧ k.fit u = true ∧ fits ks us' = true := by
  cases us with
  | nil => simp [fits] at h
  | cons u us => simp only [fits, Bool.and_eq_true] at h; exact ⟨u, us, rfl, h.1, h.2⟩
theorem fits_nil {us : List V} (h : fits [] us = true) : us = [] := by
  cases us with
  | nil => rfl
  | cons u us => simp [fits] at h

theorem run_part_sc {t : TypeId} {s : SK} (hs : skOf P t = some s) {xs : Array Value} {i : Nat} {c : Value} (hc : xs[i]? = some c) (w : World) : (part t xs i).run P w = .ok c w := by
  simp [part, agg_scalar hs, hc]

theorem eq_flat (d : Nat) (w : World) {xs ys : Array Value} : ∀ {fs : List Field} {i : Nat} {ks : List SK} {us us' : List V} {l l' : List Value}, sksOf P i fs = some ks → fits ks us = true → fits ks us' = true → VsRel x us l → VsRel x us' l' →
    (∀ j c, l[j]? = some c → xs[i + j]? = some c) → (∀ j c, l'[j]? = some c → ys[i + j]? = some c) → (Op.eqFields (d + 1) xs ys fs).run P w = .ok (sEqs us us') w
  | [], i, ks, us, us', l, l', h, h1, h2, _, _, _, _ => by
    simp only [sksOf, Option.some.injEq] at h
    subst h
    obtain rfl := fits_nil h1
    obtain rfl := fits_nil h2
    simp [Op.eqFields, sEqs]
  | f :: fs, i, ks, us, us', l, l', h, h1, h2, hl, hl', hx, hy => by
    obtain ⟨k, ks', rfl, e1, e2, e3, e4⟩ := sks_cons h
    obtain ⟨u, us, rfl, f1, g1⟩ := fits_cons h1
    obtain ⟨u', us', rfl, f2, g2⟩ := fits_cons h2
    simp only [VsRel] at hl hl'
    obtain ⟨c, cs, rfl, r1, hl⟩ := hl
    obtain ⟨c', cs', rfl, r2, hl'⟩ := hl'
    have p1 := run_part_sc e1 (hx 0 c rfl) w
    have p2 := run_part_sc e1 (hy 0 c' rfl) w
    simp only [Nat.add_zero] at p1 p2
    have q := eq_scalar e1 f1 f2 r1 r2 d w
    have ih := eq_flat d w e2 g1 g2 hl hl' (fun j c hc => by rw [show i + 1 + j = i + (j + 1) by omega]; exact hx (j + 1) c (by simpa using hc)) (fun j c hc => by rw [show i + 1 + j = i + (j + 1) by omega]; exact hy (j + 1) c (by simpa using hc))
    simp only [Op.eqFields, e4, ne_eq, not_false_eq_true, if_true, e3, Sem.run_bind, p1, p2, q, Result.andThen_ok, sEqs]
    cases hq : sEq u u'
    · simp
    · simpa using ih

theorem flat_some {t : TypeId} {ks : List SK} (h : flatOf P t = some ks) : P.underlying t = some (.struct (P.fieldsOf t)) ∧ P.stoodInHeld t = false ∧ sksOf P 0 (P.fieldsOf t).toList = some ks := by
  unfold flatOf at h
  split at h
  · rename_i fs hu
    split at h
    · rename_i hst
      refine ⟨?_, hst, ?_⟩ <;> simp [Program.fieldsOf, hu, h]
    · cases h
  · cases h

theorem eq_struct {t : TypeId} {ks : List SK} (h : flatOf P t = some ks) {us us' : List V} {l l' : List Value} (h1 : fits ks us = true) (h2 : fits ks us' = true) (hl : VsRel x us l) (hl' : VsRel x us' l') (w : World) :
    (Op.equalIn 10000 t (.agg l.toArray) (.agg l'.toArray)).run P w = .ok (sEqs us us') w := by
  obtain ⟨e1, e2, e3⟩ := flat_some h
  rw [run_equalIn_struct w 9999 t _ _ e1 e2]
  exact eq_flat 9998 w e3 h1 h2 hl hl' (fun j c hc => by simpa using hc) (fun j c hc => by simpa using hc)

theorem step_eqA (hx : WRel x) (he : ERel x e a.tmps) {p q : Operand} {o1 o2 : O} (hp : cO p = some o1) (hq : cO q = some o2) {t : TypeId} {ks : List SK} (hks : flatOf P t = some ks) (hg : P.eqGuardType P.depth t = false) {neg : Bool} {ty : TypeId}
    {K : Tok → Option V → Store → Prop} (hk : ev e x.σ K (.eqA neg ks o1 o2)) : Step P x (do pure (Next.value (← (do eqGuard (if neg then .neq else .eql) t p q (a.eval p) (a.eval q); binOp (if neg then .neq else .eql) t (a.eval p) (a.eval q))))) K := by
  obtain ⟨u, hu, hk1⟩ := onV_some hk
  obtain ⟨v, hv, hk2⟩ := onV_some hk1
  have hr := opv_rel he hp hu
  have hs := opv_rel he hq hv
  unfold evEqA at hk2
  split at hk2
  · rename_i as bs
    obtain ⟨f1, f2, hk⟩ := hk2
    simp only [VRel] at hr hs
    obtain ⟨l, e1, hl⟩ := hr
    obtain ⟨l', e2, hl'⟩ := hs
    have hrun := eq_struct hks f1 f2 hl hl' x.w
    rw [e1, e2]
    refine Step.pure hx (v := .bool (if neg then !sEqs as bs else sEqs as bs)) ?_ (by simp [VRel, TRel]) hk
    cases neg
    · simp only [Bool.false_eq_true, if_false, Sem.run_bind, run_eqGuard_agg x.w .eql t p q _ _ hg, Result.andThen_ok, run_eql_struct, hrun, Sem.run_pure]
    · simp only [if_true, Sem.run_bind, run_eqGuard_agg x.w .neq t p q _ _ hg, Result.andThen_ok, run_neq_struct, hrun, Sem.run_pure]
  · exact hk2.elim

/-! ### keys -/
theorem kd_cases {t : TypeId} {kd : KD} (h : kdOf P t = some kd) : (∃ s, kd = .one s ∧ skOf P t = some s ∧ s ≠ .bool) ∨ ∃ ks, kd = .st ks ∧ flatOf P t = some ks := by
  unfold kdOf at h
  split at h
  · rename_i k hu
    obtain rfl := Option.some.inj h
    exact .inl ⟨_, rfl, by simp [skOf, hu], by simp⟩
  · rename_i hu
    obtain rfl := Option.some.inj h
    exact .inl ⟨_, rfl, by simp [skOf, hu], by simp⟩
  · cases hf : flatOf P t with
    | none => simp [hf] at h
    | some ks => simp [hf] at h; exact .inr ⟨ks, h.symm, rfl⟩
  · cases h

theorem st_ok {ks : List SK} {u : V} (h : (KD.st ks).ok u = true) : ∃ us, u = .agg us ∧ fits ks us = true := by
  cases u <;> simp [KD.ok] at h
  exact ⟨_, rfl, h⟩

theorem run_check {t : TypeId} {kd : KD} (h : kdOf P t = some kd) {u : V} {v : Value} (hu : kd.ok u = true) (hr : VRel x u v) (em : Bool) (w : World) : (Instr.checkKey em 10000 t v).run P w = .ok () w := by
  have sc : ∀ {t : TypeId} {s : SK} {u : V} {v : Value} (n : Nat), skOf P t = some s → s.fit u = true → VRel x u v → (Instr.checkKey em (n + 1) t v).run P w = .ok () w := by
    intro t s u v n hs hf hr
    have hut := skOf_under hs
    rcases fit_val hf hr with ⟨k, n, rfl, rfl, rfl⟩ | ⟨b, rfl, rfl, rfl⟩ | ⟨c, rfl, rfl, rfl⟩ <;> (simp only [SK.desc] at hut; simp [Instr.checkKey, run_underlying hut])
  rcases kd_cases h with ⟨s, rfl, hs, _⟩ | ⟨ks, rfl, hf⟩
  · exact sc 9999 hs hu hr
  · obtain ⟨e1, e2, e3⟩ := flat_some hf
    obtain ⟨us, rfl, hu⟩ := st_ok hu
    simp only [VRel] at hr
    obtain ⟨l, rfl, hl⟩ := hr
    rw [show (10000 : Nat) = 9999 + 1 from rfl, Instr.checkKey]
    simp only [Sem.run_bind, run_underlying e1, Result.andThen_ok]
    rw [← Array.forIn_toList]
    have key : ∀ (fs : List Field) (i : Nat) (ks : List SK) (us : List V) (l' : List Value), sksOf P i fs = some ks → fits ks us = true → VsRel x us l' → (∀ j c, l'[j]? = some c → l[i + j]? = some c) →
        (forIn (m := Sem) fs PUnit.unit fun f r => if f.name ≠ "_" then do
          let a ← part f.type l.toArray f.offset
          Instr.checkKey em 9999 f.type a
          pure (ForInStep.yield PUnit.unit)
        else pure (ForInStep.yield PUnit.unit)).run P w = .ok PUnit.unit w := by
      intro fs
      induction fs with
      | nil => intro i ks us l' _ _ _ _; simp
      | cons f fs ih =>
        intro i ks us l' h1 h2 h3 h4
        obtain ⟨k, ks', rfl, g1, g2, g3, g4⟩ := sks_cons h1
        obtain ⟨u, us, rfl, f1, f2⟩ := fits_cons h2
        simp only [VsRel] at h3
        obtain ⟨c, cs, rfl, r1, h3⟩ := h3
        have p1 := run_part_sc g1 (xs := l.toArray) (i := i) (by simpa using h4 0 c rfl) w
        have p2 := sc 9998 g1 f1 r1
        simp only [List.forIn_cons, Sem.run_bind, g4, ne_eq, not_false_eq_true, if_true, g3, p1, p2, Result.andThen_ok, Sem.run_pure]
        exact ih (i + 1) ks' us cs g2 f2 h3 fun j c hc => by rw [show i + 1 + j = i + (j + 1) by omega]; exact h4 (j + 1) c (by simpa using hc)
    refine (congrArg (fun r => Result.andThen r (fun a w' => Sem.run P (pure ()) w')) (key _ 0 ks us l e3 hu hl fun j c hc => by simpa using hc)).trans ?_
    simp

theorem kEq_agg (as bs : List V) : kEq (.agg as) (.agg bs) = sEqs as bs := rfl
theorem kEq_sc {s : SK} {u u' : V} (h : s.fit u = true) : kEq u u' = sEq u u' := by
  cases u <;> simp [SK.fit] at h
  cases u' <;> rfl

/-- What a map is asked for, and where it stands. -/
def at1 (k : V) (es : List ME) (j : Nat) (m : ME) : Prop := es[j]? = some m ∧ kEq k m.k = true ∧ findM k es = some m ∧ ∀ v c, putM k v c es = es.set j ⟨k, v, m.b⟩
theorem at1_zero {k : V} {m : ME} {es : List ME} (h : kEq k m.k = true) : at1 k (m :: es) 0 m := ⟨rfl, h, by simp [findM, h], fun v c => by simp [putM, h]⟩
theorem at1_succ {k : V} {m m' : ME} {es : List ME} {j : Nat} (h : kEq k m'.k = false) (hj : at1 k es j m) : at1 k (m' :: es) (j + 1) m :=
  ⟨by simpa using hj.1, hj.2.1, by simp [findM, h, hj.2.2.1], fun v c => by simp [putM, h, hj.2.2.2 v c]⟩
def no1 (k : V) (es : List ME) : Prop := findM k es = none ∧ ∀ v c, putM k v c es = es ++ [⟨k, v, c⟩]
theorem no1_cons {k : V} {m' : ME} {es : List ME} (h : kEq k m'.k = false) (hj : no1 k es) : no1 k (m' :: es) :=
  ⟨by simp [findM, h, hj.1], fun v c => by simp [putM, h, hj.2 v c]⟩

theorem ask_flat {t : TypeId} {ks : List SK} (hf : flatOf P t = some ks) {u : V} {v : Value} (hu : (KD.st ks).ok u = true) (hr : VRel x u v) (w : World) : ∀ (es : List ME) (l : List MapEntry) (i : Nat), keysOk (.st ks) es = true → MRel x es l →
    ((Instr.findAsking t v l i).run P w = .ok none w ∧ no1 u es) ∨ ∃ j m c, (Instr.findAsking t v l i).run P w = .ok (some (i + j, c.val)) w ∧ l[j]? = some c ∧ at1 u es j m
  | [], l, i, _, hl => by
    simp only [MRel] at hl
    subst hl
    exact .inl ⟨by simp [Instr.findAsking], rfl, fun v c => rfl⟩
  | m :: es, l, i, hk, hl => by
    simp only [MRel] at hl
    obtain ⟨c, cs, rfl, r1, r2, r3, hl⟩ := hl
    simp only [keysOk, List.all_cons, Bool.and_eq_true] at hk
    obtain ⟨us, rfl, f1⟩ := st_ok hu
    obtain ⟨us', e2, f2⟩ := st_ok hk.1
    have hr' := hr
    simp only [VRel] at hr'
    obtain ⟨l1, rfl, hl1⟩ := hr'
    rw [e2] at r1
    simp only [VRel] at r1
    obtain ⟨l2, e3, hl2⟩ := r1
    have hq := eq_struct hf f1 f2 hl1 hl2 w
    have hq' : (Op.equal t (.agg l1.toArray) c.key).run P w = .ok (sEqs us us') w := by rw [e3]; exact hq
    cases hb : sEqs us us'
    · rw [hb] at hq'
      have hn : kEq (.agg us) m.k = false := by rw [e2]; exact hb
      rcases ask_flat hf hu hr w es cs (i + 1) hk.2 hl with ⟨h1, h2⟩ | ⟨j, m', c', h1, h2, h3⟩
      · exact .inl ⟨by simp [Instr.findAsking, hq', h1], no1_cons hn h2⟩
      · exact .inr ⟨j + 1, m', c', by simp [Instr.findAsking, hq', h1, Nat.add_assoc, Nat.add_comm 1 j], by simpa using h2, at1_succ hn h3⟩
    · rw [hb] at hq'
      exact .inr ⟨0, m, c, by simp [Instr.findAsking, hq'], rfl, at1_zero (by rw [e2]; exact hb)⟩

theorem now_scalar {s : SK} {d : TypeDesc} (hd : d = s.desc) (hs : s ≠ .bool) {u : V} {v : Value} (hu : s.fit u = true) (hr : VRel x u v) : ∀ (es : List ME) (l : List MapEntry) (i : Nat), keysOk (.one s) es = true → MRel x es l →
    (Instr.findNow d v l i = some none ∧ no1 u es) ∨ ∃ j m c, Instr.findNow d v l i = some (some (i + j, c.val)) ∧ l[j]? = some c ∧ at1 u es j m
  | [], l, i, _, hl => by
    simp only [MRel] at hl
    subst hl
    exact .inl ⟨by simp [Instr.findNow], rfl, fun v c => rfl⟩
  | m :: es, l, i, hk, hl => by
    simp only [MRel] at hl
    obtain ⟨c, cs, rfl, r1, r2, r3, hl⟩ := hl
    simp only [keysOk, List.all_cons, Bool.and_eq_true] at hk
    have hk1 : s.fit m.k = true := hk.1
    have hq : Instr.sameNow d v c.key = some (sEq u m.k) := by
      rcases fit_val hu hr with ⟨k, n, rfl, rfl, rfl⟩ | ⟨b, rfl, rfl, rfl⟩ | ⟨t, rfl, rfl, rfl⟩
      · rcases fit_val hk1 r1 with ⟨k', n', e1, e2, e3⟩ | ⟨_, e1, _⟩ | ⟨_, e1, _⟩
        · cases e1
          rw [e2, e3, hd]; simp [SK.desc, Instr.sameNow, sEq]
        · cases e1
        · cases e1
      · exact (hs rfl).elim
      · rcases fit_val hk1 r1 with ⟨k', n', e1, e2, e3⟩ | ⟨_, e1, _⟩ | ⟨t', e1, e2, e3⟩
        · cases e1
        · cases e1
        · rw [e2, e3, hd]; simp [SK.desc, Instr.sameNow, sEq, str_beq]
    cases hb : sEq u m.k
    · rw [hb] at hq
      have hn : kEq u m.k = false := by rw [kEq_sc hu]; exact hb
      rcases now_scalar hd hs hu hr es cs (i + 1) hk.2 hl with ⟨h1, h2⟩ | ⟨j, m', c', h1, h2, h3⟩
      · exact .inl ⟨by simp [Instr.findNow, hq, h1], no1_cons hn h2⟩
      · exact .inr ⟨j + 1, m', c', by simp [Instr.findNow, hq, h1, Nat.add_assoc, Nat.add_comm 1 j], by simpa using h2, at1_succ hn h3⟩
    · rw [hb] at hq
      exact .inr ⟨0, m, c, by simp [Instr.findNow, hq], rfl, at1_zero (by rw [kEq_sc hu]; exact hb)⟩

theorem run_find {t : TypeId} {kd : KD} (h : kdOf P t = some kd) {u : V} {v : Value} (hu : kd.ok u = true) (hr : VRel x u v) (w : World) (es : List ME) (l : List MapEntry) (hk : keysOk kd es = true) (hl : MRel x es l) :
    ((Instr.findKey t v l).run P w = .ok none w ∧ no1 u es) ∨ ∃ j m c, (Instr.findKey t v l).run P w = .ok (some (j, c.val)) w ∧ l[j]? = some c ∧ at1 u es j m := by
  rcases kd_cases h with ⟨s, rfl, hs, hb⟩ | ⟨ks, rfl, hf⟩
  · rcases now_scalar (d := _) rfl hb hu hr es l 0 hk hl with ⟨h1, h2⟩ | ⟨j, m, c, h1, h2, h3⟩
    · exact .inl ⟨by simp only [Instr.findKey, Sem.run_bind, run_underlying (skOf_under hs), Result.andThen_ok, h1, Sem.run_pure], h2⟩
    · exact .inr ⟨j, m, c, by simp only [Instr.findKey, Sem.run_bind, run_underlying (skOf_under hs), Result.andThen_ok, h1, Nat.zero_add, Sem.run_pure], h2, h3⟩
  · have hfk : (Instr.findKey t v l).run P w = (Instr.findAsking t v l).run P w := by
      have hut := (flat_some hf).1
      cases l with
      | nil => simp [Instr.findKey, run_underlying hut, Instr.findNow, Instr.findAsking]
      | cons c cs => simp [Instr.findKey, run_underlying hut, Instr.findNow, Instr.sameNow]
    rw [hfk]
    rcases ask_flat hf hu hr w es l 0 hk hl with ⟨h1, h2⟩ | ⟨j, m, c, h1, h2, h3⟩
    · exact .inl ⟨h1, h2⟩
    · exact .inr ⟨j, m, c, by simpa using h1, h2, h3⟩

theorem MRel.get {x : Cx} : ∀ {es : List ME} {l : List MapEntry} {j : Nat} {m : ME} {c : MapEntry}, MRel x es l → es[j]? = some m → l[j]? = some c → VRel x m.k c.key ∧ VRel x m.v c.val ∧ c.born = m.b
  | [], _, _, _, _, _, h, _ => by simp at h
  | e :: es, l, j, m, c, h, h1, h2 => by
    simp only [MRel] at h
    obtain ⟨c', cs, rfl, r1, r2, r3, h⟩ := h
    cases j with
    | zero =>
      simp only [List.getElem?_cons_zero, Option.some.injEq] at h1 h2
      subst h1 h2
      exact ⟨r1, r2, r3⟩
    | succ j => exact MRel.get h (by simpa using h1) (by simpa using h2)
theorem MRel.len {x : Cx} : ∀ {es : List ME} {l : List MapEntry}, MRel x es l → es.length = l.length
  | [], _, h => by simp only [MRel] at h; subst h; rfl
  | e :: es, l, h => by
    simp only [MRel] at h
    obtain ⟨c', cs, rfl, r1, r2, r3, h⟩ := h
    simp [h.len]
theorem MRel.set {x : Cx} : ∀ {es : List ME} {l : List MapEntry} {j : Nat} {m : ME} {c : MapEntry}, MRel x es l → VRel x m.k c.key → VRel x m.v c.val → c.born = m.b → MRel x (es.set j m) (l.set j c)
  | [], _, _, _, _, h, _, _, _ => by simp only [MRel] at h; subst h; simp [MRel]
  | e :: es, l, j, m, c, h, h1, h2, h3 => by
    simp only [MRel] at h
    obtain ⟨c', cs, rfl, r1, r2, r3, h⟩ := h
    cases j with
    | zero => simp only [List.set_cons_zero, MRel]; exact ⟨c, cs, rfl, h1, h2, h3, h⟩
    | succ j => simp only [List.set_cons_succ, MRel]; exact ⟨c', _, rfl, r1, r2, r3, h.set h1 h2 h3⟩
theorem MRel.push {x : Cx} : ∀ {es : List ME} {l : List MapEntry} {m : ME} {c : MapEntry}, MRel x es l → VRel x m.k c.key → VRel x m.v c.val → c.born = m.b → MRel x (es ++ [m]) (l ++ [c])
  | [], _, _, _, h, h1, h2, h3 => by
    simp only [MRel] at h
    subst h
    simp only [List.nil_append, MRel]
    exact ⟨_, _, rfl, h1, h2, h3, rfl⟩
  | e :: es, l, m, c, h, h1, h2, h3 => by
    simp only [MRel] at h
    obtain ⟨c', cs, rfl, r1, r2, r3, h⟩ := h
    simp only [List.cons_append, MRel]
    exact ⟨_, _, rfl, r1, r2, r3, h.push h1 h2 h3⟩

theorem zeroV_run {t : TypeId} {z : V} (h : zeroV P t = some z) (x : Cx) (w : World) : ∃ v, (zeroValue t).run P w = .ok v w ∧ VRel x z v := by
  unfold zeroV at h
  split at h
  · rename_i i hi
    split at h
    · rename_i zv hz
      exact ⟨zv, by simp [zeroValue, run_typeInfo' hi, hz], cV_rel x h⟩
    · cases h
  · cases h

theorem onMap_some {o : Option Obj} {K : Tok → Nat → List ME → Prop} (h : onMap o K) : ∃ c es, o = some (.map c es) ∧ K .go c es := by
  unfold onMap at h
  split at h
  · exact ⟨_, _, rfl, h⟩
  · exact h.elim
theorem map_obj (hx : WRel x) {id c : Nat} {es : List ME} {v : Value} (ho : x.σ[id]? = some (.map c es)) (hr : VRel x (.map id) v) :
    ∃ b arr, v = .map (some b) ∧ (x.ρ id).blk = some b ∧ ¬ x.F b ∧ x.w.heap[b]? = some (.map arr c) ∧ MRel x es arr.toList := by
  simp only [VRel] at hr
  obtain ⟨c', es', b, ho', hb, hv⟩ := hr
  obtain ⟨b', arr, h1, h2, h3, h4⟩ := hx.objs id _ ho
  rw [hb] at h1
  obtain rfl := Option.some.inj h1
  exact ⟨b, arr, hv, hb, h2, h3, h4⟩
theorem run_get {w : World} {b c : Nat} {arr : Array MapEntry} (h : w.heap[b]? = some (.map arr c)) : (getObj b).run P w = .ok (.map arr c) w := by simp [getObj, Sem.run, h]

theorem step_mkMap (hx : WRel x) {t : TypeId} {K : Tok → Option V → Store → Prop} (hk : K .go (some (.map x.σ.length)) (x.σ ++ [.map 0 []])) : Step P x (do pure (Next.value (← Instr.makeMap t none))) K := by
  have hw : WRel (x.neu (.map 0 []) 0 (.map #[] 0)) := by
    refine wrel_neu hx ⟨x.w.heap.size, #[], by simp [Cx.neu], fun hF => ?_, heap_alloc_new _ _, rfl⟩
    have := hx.low _ hF
    omega
  refine ⟨.value (.map (some x.w.heap.size)), x.neu (.map 0 []) 0 (.map #[] 0), some (.map x.σ.length), ?_, hk, ?_, hw, ext_neu hx _ _ _⟩
  · simp [Instr.makeMap, newObj, Sem.run]; rfl
  · simp only [NRel, VRel]
    exact ⟨0, [], x.w.heap.size, by simp [Cx.neu], by simp [Cx.neu], rfl⟩

theorem step_look (hx : WRel x) (he : ERel x e a.tmps) {p q : Operand} {o1 o2 : O} (hp : cO p = some o1) (hq : cO q = some o2) {t kt et : TypeId} {kd : KD} {z : V} {ok : Bool} (ht : P.underlying t = some (.map kt et)) (hkd : kdOf P kt = some kd) (hz : zeroV P et = some z)
    {K : Tok → Option V → Store → Prop} (hk : ev e x.σ K (.look kd ok z o1 o2)) : Step P x (do pure (Next.value (← Instr.lookup t (a.eval p) (a.eval q) ok))) K := by
  obtain ⟨u, hu, hk1⟩ := onV_some hk
  obtain ⟨v, hv, hk2⟩ := onV_some hk1
  have hr := opv_rel he hp hu
  have hs := opv_rel he hq hv
  unfold evLook at hk2
  split at hk2
  · rename_i id
    obtain ⟨c, es, ho, hk3⟩ := onMap_some hk2
    obtain ⟨k1, k2, hk⟩ := hk3
    obtain ⟨b, arr, e1, hb, hF, hh, hm⟩ := map_obj hx ho hr
    rw [e1]
    obtain ⟨zv, hzv, hzr⟩ := zeroV_run hz x x.w
    have hck := run_check hkd k1 hs arr.isEmpty x.w
    rcases run_find hkd k1 hs x.w es _ k2 hm with ⟨h1, h2, _⟩ | ⟨j, m, c', h1, h2, h3⟩
    · rw [h2] at hk
      refine Step.pure hx (v := if ok then .tuple #[zv, .bool false] else zv) ?_ ?_ hk
      · simp only [Instr.lookup, Sem.run_bind, run_underlying ht, Result.andThen_ok, run_get hh, Sem.run_pure, hck, h1, hzv]
      · cases ok
        · simpa [lookR, valOr] using hzr
        · simp only [lookR, valOr, if_true, VRel, VsRel, TRel]
          exact ⟨_, rfl, _, _, rfl, hzr, _, _, rfl, rfl, rfl⟩
    · rw [h3.2.2.1] at hk
      obtain ⟨g1, g2, g3⟩ := hm.get h3.1 h2
      refine Step.pure hx (v := if ok then .tuple #[c'.val, .bool true] else c'.val) ?_ ?_ hk
      · simp only [Instr.lookup, Sem.run_bind, run_underlying ht, Result.andThen_ok, run_get hh, Sem.run_pure, hck, h1]
      · cases ok
        · simpa [lookR, valOr] using g2
        · simp only [lookR, valOr, if_true, VRel, VsRel, TRel]
          exact ⟨_, rfl, _, _, rfl, g2, _, _, rfl, rfl, rfl⟩
  · exact hk2.elim

/-- A map object turns. -/
theorem map_turn (hx : WRel x) {id c b : Nat} {es : List ME} {arr : Array MapEntry} (ho : x.σ[id]? = some (.map c es)) (hb : (x.ρ id).blk = some b) (hF : ¬ x.F b) (hh : x.w.heap[b]? = some (.map arr c)) {c' : Nat} {es' : List ME} {arr' : Array MapEntry} (hm : MRel x es' arr'.toList) :
    ∃ w', (setObj b (.map arr' c')).run P x.w = .ok () w' ∧ WRel (x.put id (x.ρ id) (.map c' es') w') ∧ Ext x (x.put id (x.ρ id) (.map c' es') w') := by
  have hb' := (Array.getElem?_eq_some_iff.1 hh).1
  refine ⟨{ x.w with heap := x.w.heap.setIfInBounds b (.map arr' c') }, ?_, ?_⟩
  · simp [setObj, Sem.run, hh]
    first | rfl | skip
  · have hext := ext_put hx (ob := .map c' es') (pl := x.ρ id) (w' := { x.w with heap := x.w.heap.setIfInBounds b (.map arr' c') }) ho trivial (Nat.le_refl _) (fun _ => rfl) rfl rfl rfl (by simp) (fun k _ hne => by
      have : b ≠ k := fun e => hne (by rw [← e]; exact hb)
      simp [Array.getElem?_setIfInBounds_ne this])
    refine ⟨wrel_put hx ho trivial (Nat.le_refl _) (fun _ => rfl) rfl rfl rfl (by simp) (fun k _ hne => by
      have : b ≠ k := fun e => hne (by rw [← e]; exact hb)
      simp [Array.getElem?_setIfInBounds_ne this]) (fun b' hb' => .inl hb') ?_, hext⟩
    exact ⟨b, arr', by simp [Cx.put, hb], hF, by simp [Cx.put, hb'], MRel.mono hext hm⟩

theorem same_bits_sc {s : SK} {u u' : V} {v v' : Value} (h : s.fit u = true) (h' : s.fit u' = true) (hr : VRel x u v) (hr' : VRel x u' v') (hq : sEq u u' = true) (n : Nat) : Instr.sameBits (n + 1) v' v = true := by
  rcases fit_val h hr with ⟨k, m, rfl, rfl, rfl⟩ | ⟨b, rfl, rfl, rfl⟩ | ⟨c, rfl, rfl, rfl⟩
  · rcases fit_val h' hr' with ⟨k', n', e1, rfl, rfl⟩ | ⟨_, e1, _⟩ | ⟨_, e1, _⟩
    · cases e1
      simp only [sEq, beq_iff_eq] at hq
      subst hq
      simp [Instr.sameBits]
    · cases e1
    · cases e1
  · rcases fit_val h' hr' with ⟨k', n', e1, rfl, rfl⟩ | ⟨b', e1, rfl, rfl⟩ | ⟨_, e1, _⟩
    · cases e1
    · simp only [sEq, beq_iff_eq] at hq
      subst hq
      simp [Instr.sameBits]
    · cases e1
  · rcases fit_val h' hr' with ⟨k', n', e1, rfl, rfl⟩ | ⟨b', e1, rfl, rfl⟩ | ⟨c', e1, rfl, rfl⟩
    · cases e1
    · cases e1
    · simp only [sEq, beq_iff_eq] at hq
      subst hq
      simp [Instr.sameBits, str_beq]
theorem same_bits_l (n : Nat) : ∀ {ks : List SK} {us us' : List V} {l l' : List Value}, fits ks us = true → fits ks us' = true → VsRel x us l → VsRel x us' l' → sEqs us us' = true →
    l'.length = l.length ∧ ((l'.zip l).all fun (p : Value × Value) => Instr.sameBits (n + 1) p.1 p.2) = true
  | [], us, us', l, l', h, h', hl, hl', _ => by
    obtain rfl := fits_nil h
    obtain rfl := fits_nil h'
    simp only [VsRel] at hl hl'
    subst hl hl'
    simp
  | k :: ks, us, us', l, l', h, h', hl, hl', hq => by
    obtain ⟨u, us, rfl, f1, g1⟩ := fits_cons h
    obtain ⟨u', us', rfl, f2, g2⟩ := fits_cons h'
    simp only [VsRel] at hl hl'
    obtain ⟨c, cs, rfl, r1, hl⟩ := hl
    obtain ⟨c', cs', rfl, r2, hl'⟩ := hl'
    simp only [sEqs, Bool.and_eq_true] at hq
    obtain ⟨i1, i2⟩ := same_bits_l n g1 g2 hl hl' hq.2
    have := same_bits_sc f1 f2 r1 r2 hq.1 n
    simp only [List.zip_cons_cons, List.all_cons, this, Bool.true_and, List.length_cons]
    exact ⟨by omega, i2⟩
theorem run_stays {t : TypeId} {kd : KD} (h : kdOf P t = some kd) {u u' : V} {v v' : Value} (hu : kd.ok u = true) (hu' : kd.ok u' = true) (hr : VRel x u v) (hr' : VRel x u' v') (hq : kEq u u' = true) (w : World) : (Instr.keyThatStays v' v).run P w = .ok v w := by
  have : Instr.sameBits 10000 v' v = true := by
    rcases kd_cases h with ⟨s, rfl, hs, hb⟩ | ⟨ks, rfl, hf⟩
    · exact same_bits_sc hu hu' hr hr' (by rw [← kEq_sc hu]; exact hq) 9999
    · obtain ⟨us, rfl, f1⟩ := st_ok hu
      obtain ⟨us', rfl, f2⟩ := st_ok hu'
      simp only [VRel] at hr hr'
      obtain ⟨l, rfl, hl⟩ := hr
      obtain ⟨l', rfl, hl'⟩ := hr'
      obtain ⟨i1, i2⟩ := same_bits_l (x := x) 9998 f1 f2 hl hl' hq
      show Instr.sameBits (9999 + 1) _ _ = true
      simp only [Instr.sameBits, Bool.and_eq_true, beq_iff_eq, List.size_toArray]
      exact ⟨i1, i2⟩
  simp [Instr.keyThatStays, this]

theorem modify_set {α : Type} {arr : Array α} {j : Nat} {c : α} (h : arr.toList[j]? = some c) (f : α → α) : (arr.modify j f).toList = arr.toList.set j (f c) := by
  have hj := (List.getElem?_eq_some_iff.1 h).1
  have h' : arr[j]? = some c := by simpa using h
  apply List.ext_getElem?
  intro i
  rw [List.getElem?_set]
  by_cases e : j = i
  · subst e
    simp [Array.getElem?_modify, h', hj]
    simpa using hj
  · simp [Array.getElem?_modify, e]
theorem keys_at {kd : KD} {es : List ME} (h : keysOk kd es = true) {j : Nat} {m : ME} (hj : es[j]? = some m) : kd.ok m.k = true := List.all_eq_true.1 h m (List.mem_of_getElem? hj)

theorem step_mapUp (hx : WRel x) (he : ERel x e a.tmps) {p q r : Operand} {o1 o2 o3 : O} (hp : cO p = some o1) (hq : cO q = some o2) (hr3 : cO r = some o3) {t kt et : TypeId} {kd : KD} (ht : P.underlying t = some (.map kt et)) (hkd : kdOf P kt = some kd)
    {K : Tok → Option V → Store → Prop} (hk : ev e x.σ K (.mapUp kd o1 o2 o3)) : Step P x (do Instr.mapUpdate t (a.eval p) (a.eval q) (a.eval r); pure Next.skip) K := by
  obtain ⟨u, hu, hk1⟩ := onV_some hk
  obtain ⟨v, hv, hk2⟩ := onV_some hk1
  obtain ⟨y, hy, hk3⟩ := onV_some hk2
  have hr := opv_rel he hp hu
  have hs := opv_rel he hq hv
  have hyr := opv_rel he hr3 hy
  obtain ⟨id, rfl⟩ : ∃ id, u = .map id := by cases u <;> first | exact ⟨_, rfl⟩ | exact False.elim hk3
  unfold evMapUp at hk3
  · skip
    obtain ⟨c, es, ho, hk4⟩ := onMap_some hk3
    obtain ⟨k1, k2, hk⟩ := hk4
    obtain ⟨b, arr, e1, hb, hF, hh, hm⟩ := map_obj hx ho hr
    rw [e1]
    have hck := run_check hkd k1 hs false x.w
    rcases run_find hkd k1 hs x.w es _ k2 hm with ⟨h1, h2, h2'⟩ | ⟨j, m, c', h1, h2, h3⟩
    · simp only [clkM, h2, Option.isSome_none, Bool.false_eq_true, if_false, h2'] at hk
      obtain ⟨w', g1, g2, g3⟩ := map_turn (P := P) hx ho hb hF hh (c' := c + 1) (es' := es ++ [⟨v, y, c⟩]) (arr' := arr.push { key := a.eval q, val := a.eval r, born := c }) (by
        rw [Array.toList_push]; exact hm.push hs hyr rfl)
      refine ⟨.skip, _, none, ?_, hk, trivial, g2, g3⟩
      simp only [Instr.mapUpdate, Sem.run_bind, run_underlying ht, Result.andThen_ok, run_get hh, hck, h1, g1, Sem.run_pure]
      rfl
    · simp only [clkM, h3.2.2.1, Option.isSome_some, if_true, h3.2.2.2] at hk
      obtain ⟨n1, n2, n3⟩ := hm.get h3.1 h2
      have hst := run_stays hkd k1 (keys_at k2 h3.1) hs n1 h3.2.1 x.w
      have hkey : ((arr[j]?).map (·.key)).getD (a.eval q) = c'.key := by
        have : arr[j]? = some c' := by simpa using h2
        simp [this]
      obtain ⟨w', g1, g2, g3⟩ := map_turn (P := P) hx ho hb hF hh (c' := c) (es' := es.set j ⟨v, y, m.b⟩) (arr' := arr.modify j fun e => { e with key := a.eval q, val := a.eval r }) (by
        rw [modify_set h2]; exact hm.set hs hyr n3)
      refine ⟨.skip, _, none, ?_, hk, trivial, g2, g3⟩
      simp only [Instr.mapUpdate, Sem.run_bind, run_underlying ht, Result.andThen_ok, run_get hh, hck, h1, hkey, hst, g1, Sem.run_pure]
      rfl

theorem step_mapEnt (hx : WRel x) (he : ERel x e a.tmps) {p q : Operand} {o1 o2 : O} (hp : cO p = some o1) (hq : cO q = some o2) {t kt et : TypeId} {kd : KD} {z : V} (ht : P.underlying t = some (.map kt et)) (hkd : kdOf P kt = some kd) (hz : zeroV P et = some z)
    {K : Tok → Option V → Store → Prop} (hk : ev e x.σ K (.mapEnt kd z o1 o2)) : Step P x (do pure (Next.value (← Instr.mapEntry t (a.eval p) (a.eval q)))) K := by
  obtain ⟨u, hu, hk1⟩ := onV_some hk
  obtain ⟨v, hv, hk3⟩ := onV_some hk1
  have hr := opv_rel he hp hu
  have hs := opv_rel he hq hv
  obtain ⟨id, rfl⟩ : ∃ id, u = .map id := by cases u <;> first | exact ⟨_, rfl⟩ | exact False.elim hk3
  unfold evMapEnt at hk3
  · skip
    obtain ⟨c, es, ho, hk4⟩ := onMap_some hk3
    obtain ⟨k1, k2, hk⟩ := hk4
    obtain ⟨b, arr, e1, hb, hF, hh, hm⟩ := map_obj hx ho hr
    rw [e1]
    obtain ⟨zv, hzv, hzr⟩ := zeroV_run hz x x.w
    have hck := run_check hkd k1 hs false x.w
    rcases run_find hkd k1 hs x.w es _ k2 hm with ⟨h1, h2, h2'⟩ | ⟨j, m, c', h1, h2, h3⟩
    · simp only [clkM, h2, Option.isSome_none, Bool.false_eq_true, if_false, h2', valOr, bornOr] at hk
      obtain ⟨w', g1, g2, g3⟩ := map_turn (P := P) hx ho hb hF hh (c' := c + 1) (es' := es ++ [⟨v, z, c⟩]) (arr' := arr.push { key := a.eval q, val := zv, born := c }) (by
        rw [Array.toList_push]; exact hm.push hs hzr rfl)
      refine ⟨.value (.tuple #[zv, goInt c]), _, _, ?_, hk, ?_, g2, g3⟩
      · simp only [Instr.mapEntry, Sem.run_bind, run_underlying ht, Result.andThen_ok, run_get hh, hck, h1, hzv, g1, Sem.run_pure]
        rfl
      · simp only [NRel, VRel, VsRel, TRel, goInt]
        exact ⟨_, rfl, _, _, rfl, VRel.mono g3 _ _ hzr, _, _, rfl, rfl, rfl⟩
    · simp only [clkM, h3.2.2.1, Option.isSome_some, if_true, h3.2.2.2, valOr, bornOr] at hk
      obtain ⟨n1, n2, n3⟩ := hm.get h3.1 h2
      have hst := run_stays hkd k1 (keys_at k2 h3.1) hs n1 h3.2.1 x.w
      have hat : arr[j]? = some c' := by simpa using h2
      have hkey : ((arr[j]?).map (·.key)).getD (a.eval q) = c'.key := by simp [hat]
      have hborn : goInt (((arr[j]?).map fun (x : MapEntry) => (x.born : Int)).getD 0) = goInt m.b := by simp [hat, n3]
      obtain ⟨w', g1, g2, g3⟩ := map_turn (P := P) hx ho hb hF hh (c' := c) (es' := es.set j ⟨v, m.v, m.b⟩) (arr' := arr.modify j fun e => { e with key := a.eval q }) (by
        rw [modify_set h2]; exact hm.set hs n2 n3)
      refine ⟨.value (.tuple #[c'.val, goInt m.b]), _, _, ?_, hk, ?_, g2, g3⟩
      · simp only [Instr.mapEntry, Sem.run_bind, run_underlying ht, Result.andThen_ok, run_get hh, hck, h1, hkey, hst, g1, Sem.run_pure]
        rw [hborn]
        rfl
      · simp only [NRel, VRel, VsRel, TRel, goInt]
        exact ⟨_, rfl, _, _, rfl, VRel.mono g3 _ _ n2, _, _, rfl, rfl, rfl⟩

theorem storeM_at {s : Int} {y : V} : ∀ {es es' : List ME} {l : List MapEntry}, storeM s y es = some es' → MRel x es l → ∃ j m c, l.findIdx? (fun e => (e.born : Int) == s) = some j ∧ es[j]? = some m ∧ l[j]? = some c ∧ es' = es.set j ⟨m.k, y, m.b⟩
  | [], _, _, h, _ => by simp [storeM] at h
  | e :: es, es', l, h, hm => by
    simp only [MRel] at hm
    obtain ⟨c, cs, rfl, r1, r2, r3, hm⟩ := hm
    simp only [storeM] at h
    split at h
    · rename_i hb
      obtain rfl := Option.some.inj h
      exact ⟨0, e, c, by simp only [List.findIdx?_cons, r3, hb]; rfl, rfl, rfl, rfl⟩
    · rename_i hb
      cases hst : storeM s y es with
      | none => simp [hst] at h
      | some es'' =>
        simp [hst] at h
        subst h
        obtain ⟨j, m, c', h1, h2, h3, rfl⟩ := storeM_at hst hm
        refine ⟨j + 1, m, c', ?_, by simpa using h2, by simpa using h3, rfl⟩
        rw [List.findIdx?_cons, r3, h1]
        simp [hb]

theorem step_entSt (hx : WRel x) (he : ERel x e a.tmps) {p q r : Operand} {o1 o2 o3 : O} (hp : cO p = some o1) (hq : cO q = some o2) (hr3 : cO r = some o3) {t : TypeId}
    {K : Tok → Option V → Store → Prop} (hk : ev e x.σ K (.entSt o1 o2 o3)) : Step P x (do Instr.entryStore t (a.eval p) (a.eval q) (a.eval r); pure Next.skip) K := by
  obtain ⟨u, hu, hk1⟩ := onV_some hk
  obtain ⟨v, hv, hk2⟩ := onV_some hk1
  obtain ⟨y, hy, hk3⟩ := onV_some hk2
  have hr := opv_rel he hp hu
  have hs := opv_rel he hq hv
  have hyr := opv_rel he hr3 hy
  obtain ⟨id, rfl⟩ : ∃ id, u = .map id := by cases u <;> first | exact ⟨_, rfl⟩ | exact False.elim hk3
  obtain ⟨k, s, rfl⟩ : ∃ k s, v = .t (.int k s) := by cases v with
    | t c => cases c <;> first | exact ⟨_, _, rfl⟩ | exact False.elim hk3
    | _ => exact False.elim hk3
  unfold evEntSt at hk3
  · skip
    obtain ⟨c, es, ho, hk4⟩ := onMap_some hk3
    obtain ⟨es', hes, hk⟩ := onRow_some hk4
    obtain ⟨b, arr, e1, hb, hF, hh, hm⟩ := map_obj hx ho hr
    have e2 : a.eval q = .int k s := by simpa [VRel, TRel] using hs
    rw [e1, e2]
    obtain ⟨j, m, c', h1, h2, h3, rfl⟩ := storeM_at hes hm
    obtain ⟨n1, n2, n3⟩ := hm.get h2 h3
    have hidx : arr.findIdx? (fun e => (e.born : Int) == s) = some j := by
      rw [← h1]
      cases arr with
      | mk l => simp
    obtain ⟨w', g1, g2, g3⟩ := map_turn (P := P) hx ho hb hF hh (c' := c) (es' := es.set j ⟨m.k, y, m.b⟩) (arr' := arr.modify j fun e => { e with val := a.eval r }) (by
      rw [modify_set h3]; exact hm.set n1 hyr n3)
    refine ⟨.skip, _, none, ?_, hk, trivial, g2, g3⟩
    simp only [Instr.entryStore, Sem.run_bind, Result.andThen_ok, run_get hh, asInt, asIntOf, Sem.run_pure, hidx, g1]
    rfl

theorem step_lenM (hx : WRel x) (he : ERel x e a.tmps) {p : Operand} {o : O} (hp : cO p = some o) {t ty kt et : TypeId} (ht : P.underlying t = some (.map kt et))
    {K : Tok → Option V → Store → Prop} (hk : ev e x.σ K (.lenM o)) : Step P x (do pure (Next.value (← Builtin.len_ #[t] ty #[a.eval p]))) K := by
  obtain ⟨u, hu, hk1⟩ := onV_some hk
  have hr := opv_rel he hp hu
  unfold evLenM at hk1
  split at hk1
  · rename_i id
    obtain ⟨c, es, ho, hk⟩ := onMap_some hk1
    obtain ⟨b, arr, e1, hb, hF, hh, hm⟩ := map_obj hx ho hr
    rw [e1]
    have hl := hm.len
    refine Step.pure hx (v := goInt arr.size) ?_ ?_ hk
    · simp [Builtin.len_, run_underlying ht, run_get hh]
    · simp only [goInt, VRel, TRel]
      rw [hl]
      simp
  · exact hk1.elim

theorem step_iface (hx : WRel x) (he : ERel x e a.tmps) {p : Operand} {o : O} (hp : cO p = some o) {t : TypeId} {d : TypeDesc} (ht : P.underlying t = some d) (hd : ∀ m, d ≠ .interface m)
    {K : Tok → Option V → Store → Prop} (hk : ev e x.σ K (.iface t o)) : Step P x (do pure (Next.value (← Instr.makeInterface t (a.eval p)))) K := by
  obtain ⟨u, hu, hk1⟩ := onV_some hk
  have hr := opv_rel he hp hu
  refine Step.pure hx (v := .iface t (a.eval p)) ?_ ?_ hk1
  · simp only [Instr.makeInterface, Sem.run_bind, run_underlying ht, Result.andThen_ok]
    cases d <;> first | (exact (hd _ rfl).elim) | simp
  · simp only [VRel]; exact ⟨_, rfl, hr⟩

theorem onVs_some {o : Option (List V)} {K : Tok → List V → Prop} (h : onVs o K) : ∃ us, o = some us ∧ K .go us := by
  cases o with
  | none => exact h.elim
  | some us => exact ⟨us, rfl, h⟩
theorem step_fn (hx : WRel x) (he : ERel x e a.tmps) {f : FuncId} {caps : Array Operand} {os : List O} (hc : cOs caps.toList = some os)
    {K : Tok → Option V → Store → Prop} (hk : ev e x.σ K (.fn f os)) : Step P x (do pure (Next.value (← Instr.makeFunc (.func f) #[] (caps.map a.eval)))) K := by
  obtain ⟨us, hu, hk1⟩ := onVs_some hk
  have hr := opvs_rel he hc hu
  refine Step.pure hx (v := .func (.func f) #[] (caps.map a.eval)) ?_ ?_ hk1
  · simp [Instr.makeFunc]
  · simp only [VRel]
    refine ⟨caps.toList.map a.eval, ?_, hr⟩
    congr 1
    apply Array.ext'
    simp

theorem step_mm (hx : WRel x) (he : ERel x e a.tmps) {p q : Operand} {o1 o2 : O} (hp : cO p = some o1) (hq : cO q = some o2) {mx : Bool} {ts : Array TypeId} {ty : TypeId}
    {K : Tok → Option V → Store → Prop} (hk : ev e x.σ K (.mm mx o1 o2)) : Step P x (do pure (Next.value (← if mx then Builtin.max_ ts ty #[a.eval p, a.eval q] else Builtin.min_ ts ty #[a.eval p, a.eval q]))) K := by
  obtain ⟨u, hu, hk1⟩ := onV_some hk
  obtain ⟨v, hv, hk2⟩ := onV_some hk1
  have hr := opv_rel he hp hu
  have hs := opv_rel he hq hv
  unfold evMM at hk2
  split at hk2
  · rename_i k n k' m
    have e1 : a.eval p = .int k n := by simpa [VRel, TRel] using hr
    have e2 : a.eval q = .int k' m := by simpa [VRel, TRel] using hs
    rw [e1, e2]
    refine Step.pure hx (v := .int k (if mx then (if m > n then m else n) else (if m < n then m else n))) ?_ (by simp [VRel, TRel]) hk2
    cases mx <;> simp [Builtin.max_, Builtin.min_, Builtin.max2, Builtin.min2]
  · exact hk2.elim

theorem copy_flat {sz : Nat} {rows rs : List (List V)} {l m : List Value} (h1 : ∀ r ∈ rows, r.length = sz) (h2 : VsRel x rows.flatten l) (h3 : ∀ r ∈ rs, r.length = sz) (h4 : VsRel x rs.flatten m) (off n : Nat) (hn : n ≤ rs.length) :
    VsRel x (rows.take off ++ rs.take n ++ rows.drop (off + n)).flatten (l.take (off * sz) ++ m.take (n * sz) ++ l.drop (off * sz + (m.take (n * sz)).length)) := by
  have hm := flat_len' h3 h4
  have hlen : (m.take (n * sz)).length = n * sz := by
    rw [List.length_take, hm]
    exact Nat.min_eq_left (Nat.mul_le_mul_right _ hn)
  rw [hlen, ← Nat.add_mul, List.flatten_append, List.flatten_append, flat_take off h1, flat_take n h3, flat_drop (off + n) h1]
  exact ((h2.take _).app (h4.take _)).app (h2.drop _)

theorem step_copy (hx : WRel x) (he : ERel x e a.tmps) {p q : Operand} {o1 o2 : O} (hp : cO p = some o1) (hq : cO q = some o2) {t t' ty et et' : TypeId} {i : TypeInfo} (ht : P.underlying t = some (.slice et)) (hti : P.info? et = some i) (hpos : 0 < i.size)
    {K : Tok → Option V → Store → Prop} (hk : ev e x.σ K (.copy i.size o1 o2)) : Step P x (do pure (Next.value (← Builtin.copy_ #[t, t'] ty #[a.eval p, a.eval q]))) K := by
  obtain ⟨u, hu, hk1⟩ := onV_some hk
  obtain ⟨v, hv, hk2⟩ := onV_some hk1
  obtain ⟨rs, hrs, hk3⟩ := onRow_some hk2
  have hr := opv_rel he hp hu
  have hs := opv_rel he hq hv
  obtain ⟨ad, c, hqv, hrel⟩ := rowsOf_rel hx hrs hs
  have hv' : v ≠ v → False := fun h => h rfl
  unfold evCopy at hk3
  split at hk3
  · rename_i id g off len
    obtain ⟨s', rows, ho, hk4⟩ := onSlc_some hk3
    obtain ⟨rfl, rfl, hn, hk⟩ := hk4
    simp only [VRel] at hr
    obtain ⟨ob, ho', _, ad', c', hpv, hc', hr⟩ := hr
    rw [ho] at ho'
    obtain rfl := Option.some.inj ho'
    obtain ⟨q1, q2, q3⟩ := hr rfl
    have hn1 : min rs.length len ≤ rs.length := Nat.min_le_left _ _
    have hn2 : min rs.length len ≤ len := Nat.min_le_right _ _
    rcases q2 with q2 | ⟨b', hb', rfl⟩
    · omega
    obtain ⟨h1', _⟩ | ⟨b, arr, tty, fr, l, g1, g2, g3, g4, g5, g6, g7, g8, g9⟩ := hx.objs id _ ho
    · subst h1'; simp at q1; omega
    rw [g1] at hb'
    obtain rfl := Option.some.inj hb'
    rcases hrel with h | ⟨b2, off2, m, rfl, m1, m2, m3, m4⟩
    · subst h; simp at hn
    have hml := flat_len' m1 m2
    have hll := flat_len' g7 g8
    obtain ⟨⟨rest, hrest⟩, g10⟩ := g9
    have hmt : (m.take (min rs.length len * i.size)).length = min rs.length len * i.size := by
      rw [List.length_take, hml]
      exact Nat.min_eq_left (Nat.mul_le_mul_right _ hn1)
    have hload := loadCells_run (P := P) (w := x.w) (b := b2) (off := off2) (l := m.take (min rs.length len * i.size)) (fun j v hj => by
      rw [List.getElem?_take] at hj
      split at hj
      · exact m3 j v hj
      · cases hj)
    rw [hmt] at hload
    have hle : off * i.size + min rs.length len * i.size ≤ rows.length * i.size := by
      rw [← Nat.add_mul]; exact Nat.mul_le_mul_right _ (by omega)
    have hal : arr.toList.length = l.length + rest.length := by rw [← hrest]; simp
    have hsz : rows.length * i.size ≤ arr.size := by simp at hal; omega
    obtain ⟨w', arr', hrun, hh, hl, hsize, k1, k2, k3, hkk⟩ := storeCells_run (P := P) (vs := m.take (min rs.length len * i.size)) (off := off * i.size) (i := 0) g3 g4 (by rw [hmt]; omega) (fun v hv => m4 v (List.mem_of_mem_take hv))
    have hnew : (rows.take off ++ rs.take (min rs.length len) ++ rows.drop (off + min rs.length len)).length = rows.length := by
      simp only [List.length_append, List.length_take, List.length_drop]
      omega
    have hlike : Obj.like (.slc i.size rows) (.slc i.size (rows.take off ++ rs.take (min rs.length len) ++ rows.drop (off + min rs.length len))) := rfl
    have hgen : Obj.gen (.slc i.size rows) = Obj.gen (.slc i.size (rows.take off ++ rs.take (min rs.length len) ++ rows.drop (off + min rs.length len))) := by simp only [Obj.gen, hnew]
    have hext := ext_put hx (pl := x.ρ id) (w' := w') ho hlike (Nat.le_of_eq hgen) (fun _ => rfl) k1 k2 k3 (by omega) (fun k _ hne => hkk k (fun e => hne (e ▸ g1)))
    have hsame : arr'.size = arr.size := by
      have := congrArg List.length hl
      simp only [List.length_append, List.length_take, List.length_drop, Array.length_toList, hml] at this
      rw [Nat.min_eq_left (Nat.mul_le_mul_right _ hn1)] at this
      omega
    refine ⟨.value (.int .i64 ((min rs.length len : Nat) : Int)), x.put id (x.ρ id) (.slc i.size (rows.take off ++ rs.take (min rs.length len) ++ rows.drop (off + min rs.length len))) w', some (.t (.int .i64 ((min rs.length len : Nat) : Int))), ?_, hk, by simp [NRel, VRel, TRel], ?_, hext⟩
    · have hmin : Nat.min rs.length len = min rs.length len := rfl
      rw [hpv, hqv]
      simp only [Builtin.copy_, Sem.run_bind, Sem.run_pure, Result.andThen_ok, run_underlying ht, Builtin.lenOf, run_sizeOf' hti, Builtin.firstCells, hmin, hload]
      first | (simp [run_underlying ht, Builtin.lenOf, run_sizeOf' hti, Builtin.firstCells, hmin, hload, hrun, goInt]; done) | (simp [run_underlying ht, Builtin.lenOf, run_sizeOf' hti, Builtin.firstCells, hmin, hload, hrun, goInt]; rfl)
    · refine wrel_put hx ho hlike (Nat.le_of_eq hgen) (fun _ => rfl) k1 k2 k3 (by omega) (fun k _ hne => hkk k (fun e => hne (e ▸ g1))) (fun b' hb' => .inl hb') ?_
      refine .inr ⟨b, arr', tty, fr, l.take (off * i.size) ++ m.take (min rs.length len * i.size) ++ l.drop (off * i.size + (m.take (min rs.length len * i.size)).length), by simp [Cx.put, g1], g2, hh, by rw [hsame]; exact g4, by rw [hnew]; simp [Cx.put]; exact g5, by rw [hsame]; simp [Cx.put]; exact g6, ?_, ?_, ?_, ?_⟩
      · intro r' hr'
        simp only [List.mem_append] at hr'
        rcases hr' with (h | h) | h
        · exact g7 r' (List.mem_of_mem_take h)
        · exact m1 r' (List.mem_of_mem_take h)
        · exact g7 r' (List.mem_of_mem_drop h)
      · exact VsRel.mono hext _ _ (copy_flat g7 g8 m1 m2 off _ hn1)
      · refine ⟨rest, ?_⟩
        rw [hl, ← hrest, hmt, List.take_append_of_le_length (by rw [hll]; omega), List.drop_append_of_le_length (by rw [hll]; omega)]
        simp
      · intro v hv
        simp only [List.mem_append] at hv
        rcases hv with (hv | hv) | hv
        · exact g10 v (List.mem_of_mem_take hv)
        · exact m4 v (List.mem_of_mem_take hv)
        · exact g10 v (List.mem_of_mem_drop hv)
  · exact hk3.elim
end
end Go.Ab
