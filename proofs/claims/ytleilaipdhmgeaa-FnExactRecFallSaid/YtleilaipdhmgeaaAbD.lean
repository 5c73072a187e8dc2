/- That each operation of the model does what its instruction says: strings, slices, fields, loads, new variables and stores. Conditions: none (a library of lemmas). -/
import Derived.Test.YtleilaipdhmgeaaAbC
import Derived.Lib.Strings
set_option linter.unusedSimpArgs false
set_option linter.unusedVariables false
set_option linter.defProp false
namespace Go.Ab
section
variable {P : Program} {x : Cx} {e : Env} {a : Act}

theorem bnd_run (he : ERel x e a.tmps) {lo : Option Operand} {o : Option O} (hc : cOo lo = some o) {d : Nat} {K : Tok → Nat → Prop} (h : bnd e o d K) :
    ∃ l, K .go l ∧ ((lo = none ∧ l = d) ∨ ∃ p k i, lo = some p ∧ a.eval p = .int k i ∧ 0 ≤ i ∧ l = i.toNat) := by
  cases lo with
  | none =>
    simp only [cOo, Option.some.injEq] at hc
    subst hc
    exact ⟨d, h, .inl ⟨rfl, rfl⟩⟩
  | some p =>
    simp only [cOo] at hc
    cases hp : cO p with
    | none => simp [hp] at hc
    | some o' =>
      simp [hp] at hc
      subst hc
      simp only [bnd] at h
      unfold bndV at h
      split at h
      · rename_i k i hu
        exact ⟨i.toNat, h.2, .inr ⟨p, k, i, rfl, rel_int (opv_rel he hp hu), h.1, rfl⟩⟩
      · exact h.elim

theorem slice_run (he : ERel x e a.tmps) {lo hi : Option Operand} {lo' hi' : Option O} (hl : cOo lo = some lo') (hh : cOo hi = some hi') (b : Bool) {n cap : Nat} (hcap : n ≤ cap) (hb : b = true ∨ cap = n) {K : Tok → Nat → Nat → Prop} (h : evSlice e n lo' hi' K) (w : World) :
    ∃ l m, l ≤ m ∧ m ≤ n ∧ K .go l m ∧ (Instr.sliceBounds b n cap (lo.map a.eval) (hi.map a.eval) none).run P w = .ok (l, m, cap) w := by
  unfold evSlice at h
  obtain ⟨m, ⟨hm, h⟩, h2⟩ := bnd_run he hh h
  obtain ⟨l, ⟨hlm, hk⟩, h1⟩ := bnd_run he hl h
  refine ⟨l, m, hlm, hm, hk, ?_⟩
  have r1 : ∀ (y : Nat) (c : BoundsCode) (k : IntKind) (i : Int), 0 ≤ i → i.toNat ≤ y → (Instr.sliceBound (.int k i) y c).run P w = .ok i.toNat w := by
    intro y c k i h0 hy
    simp [Instr.sliceBound, asIntOf, show 0 ≤ i ∧ i ≤ (y : Int) from ⟨h0, by omega⟩]
  rcases h2 with ⟨rfl, rfl⟩ | ⟨p, k, i, rfl, hp, hi0, rfl⟩
  · rcases h1 with ⟨rfl, rfl⟩ | ⟨p, k, i, rfl, hp, hi0, rfl⟩
    · simp [Instr.sliceBounds]
    · simp only [Option.map_some, Option.map_none, Instr.sliceBounds, hp, Sem.run_bind, Sem.run_pure, Result.andThen_ok, Option.isSome_none, Bool.false_eq_true, if_false, r1 _ _ k i hi0 hlm]
  · rcases h1 with ⟨rfl, rfl⟩ | ⟨p', k', i', rfl, hp', hi0', rfl⟩
    · simp only [Option.map_some, Option.map_none, Instr.sliceBounds, hp, Sem.run_bind, Sem.run_pure, Result.andThen_ok, r1 _ _ k i hi0 (show i.toNat ≤ cap by omega)]
    · simp only [Option.map_some, Instr.sliceBounds, hp, hp', Sem.run_bind, Sem.run_pure, Result.andThen_ok, Option.isSome_none, Bool.false_eq_true, if_false, r1 _ _ k i hi0 (show i.toNat ≤ cap by omega), r1 _ _ k' i' hi0' hlm]

theorem step_sliceStr (hx : WRel x) (he : ERel x e a.tmps) {p : Operand} {o : O} {lo hi : Option Operand} {lo' hi' : Option O} (hp : cO p = some o) (hl : cOo lo = some lo') (hh : cOo hi = some hi') {t : TypeId} (ht : P.underlying t = some .string)
    {K : Tok → Option V → Store → Prop} (hk : ev e x.σ K (.sliceStr o lo' hi')) : Step P x (do pure (Next.value (← Instr.sliceAt t (a.eval p) (lo.map a.eval) (hi.map a.eval) none))) K := by
  obtain ⟨u, hu, hk⟩ := onV_some hk
  have hr := opv_rel he hp hu
  unfold evSliceStr at hk
  split at hk
  · rename_i s
    rw [rel_str hr]
    obtain ⟨l, m, hlm, hmn, hk, hrun⟩ := slice_run (P := P) he hl hh false (Nat.le_refl _) (.inr rfl) hk x.w
    refine Step.pure hx (v := .string ⟨((s.take m).drop l).toArray⟩) ?_ (mk_str _) hk
    have hsz : (⟨s.toArray⟩ : ByteArray).size = s.length := by simp [ByteArray.size]
    simp only [Instr.sliceAt, Instr.slice, Sem.run_bind, run_underlying ht, Result.andThen_ok, hsz, hrun, Sem.run_pure, Option.isSome_none, Bool.false_eq_true, if_false]
    congr 2
    congr 1
    rw [Lib.extract_eq]
    simp [List.drop_take]
  · exact hk.elim

theorem run_sizeOf' {t : TypeId} {i : TypeInfo} (h : P.info? t = some i) (w : World) : (sizeOf t).run P w = .ok i.size w := by simp [sizeOf, typeInfo, h]
theorem run_typeInfo' {t : TypeId} {i : TypeInfo} (h : P.info? t = some i) (w : World) : (typeInfo t).run P w = .ok i w := by simp [typeInfo, h]

theorem TRows.drop {F : Nat → Prop} {w : World} {sz : Nat} : ∀ {rows : List (List T)} {b off : Nat} (l : Nat), TRows F w sz rows b off → TRows F w sz (rows.drop l) b (off + l * sz)
  | [], _, _, l, _ => by simp [TRows]
  | r :: rs, b, off, 0, h => by simpa using h
  | r :: rs, b, off, l + 1, h => by
    simp only [TRows] at h
    have := TRows.drop l h.2.2
    rw [show off + (l + 1) * sz = off + sz + l * sz by rw [Nat.add_mul]; omega]
    exact this
theorem TRows.take {F : Nat → Prop} {w : World} {sz : Nat} : ∀ {rows : List (List T)} {b off : Nat} (l : Nat), TRows F w sz rows b off → TRows F w sz (rows.take l) b off
  | [], _, _, l, _ => by simp [TRows]
  | r :: rs, b, off, 0, h => by simp [TRows]
  | r :: rs, b, off, l + 1, h => by
    simp only [TRows, List.take_succ_cons] at h ⊢
    exact ⟨h.1, h.2.1, TRows.take l h.2.2⟩
theorem TRows.get {F : Nat → Prop} {w : World} {sz : Nat} : ∀ {rows : List (List T)} {b off : Nat} {l : Nat} {r : List T}, rows[l]? = some r → TRows F w sz rows b off → r.length = sz ∧ TCells F w r b (off + l * sz)
  | [], _, _, l, _, hr, _ => by simp at hr
  | r :: rs, b, off, 0, _, hr, h => by
    simp at hr; subst hr
    simp only [TRows] at h
    exact ⟨h.1, by simpa using h.2.1⟩
  | r :: rs, b, off, l + 1, _, hr, h => by
    simp only [TRows] at h
    have := TRows.get (l := l) (by simpa using hr) h.2.2
    rw [show off + (l + 1) * sz = off + sz + l * sz by rw [Nat.add_mul]; omega]
    exact this
theorem TCells.drop {F : Nat → Prop} {w : World} : ∀ {cs : List T} {b off : Nat} (l : Nat), TCells F w cs b off → TCells F w (cs.drop l) b (off + l)
  | [], _, _, l, _ => by simp [TCells]
  | r :: rs, b, off, 0, h => by simpa using h
  | r :: rs, b, off, l + 1, h => by
    simp only [TCells] at h
    have := TCells.drop l h.2
    rw [show off + (l + 1) = off + 1 + l by omega]
    exact this

theorem VsRel.get {x : Cx} : ∀ {us : List V} {l : List Value} {k : Nat} {u : V}, VsRel x us l → us[k]? = some u → ∃ c, l[k]? = some c ∧ VRel x u c
  | [], _, _, _, _, h => by simp at h
  | u :: us, l, 0, v, hl, h => by
    simp only [VsRel] at hl
    obtain ⟨c, cs, rfl, hc, _⟩ := hl
    simp at h; subst h
    exact ⟨c, rfl, hc⟩
  | u :: us, l, k + 1, v, hl, h => by
    simp only [VsRel] at hl
    obtain ⟨c, cs, rfl, _, hcs⟩ := hl
    obtain ⟨d, hd, hr⟩ := VsRel.get hcs (k := k) (by simpa using h)
    exact ⟨d, by simpa using hd, hr⟩

theorem addr_add (b off n : Nat) : Addr.add ⟨b, off, none⟩ n = ⟨b, off + n, none⟩ := by
  unfold Addr.add
  split
  · subst_vars; rfl
  · rfl

theorem step_sliceSl (hx : WRel x) (he : ERel x e a.tmps) {p : Operand} {o : O} {lo hi : Option Operand} {lo' hi' : Option O} (hp : cO p = some o) (hl : cOo lo = some lo') (hh : cOo hi = some hi') {t et : TypeId} {i : TypeInfo} (ht : P.underlying t = some (.slice et)) (hti : P.info? et = some i)
    {K : Tok → Option V → Store → Prop} (hk : ev e x.σ K (.sliceSl i.size o lo' hi')) : Step P x (do pure (Next.value (← Instr.sliceAt t (a.eval p) (lo.map a.eval) (hi.map a.eval) none))) K := by
  obtain ⟨u, hu, hk⟩ := onV_some hk
  have hr := opv_rel he hp hu
  unfold evSliceSl at hk
  split at hk
  · rename_i sz rows
    obtain ⟨rfl, hk⟩ := hk
    simp only [VRel, TRel] at hr
    obtain ⟨ad, c, hv, hc, hr⟩ := hr
    rw [hv]
    obtain ⟨l, m, hlm, hmn, hk, hrun⟩ := slice_run (P := P) he hl hh true hc (.inl rfl) hk x.w
    have hlen : ((rows.take m).drop l).length = m - l := by simp; omega
    refine Step.pure hx (v := .slice (if c = l then ad else ad.map (·.add (l * i.size))) (m - l) (c - l)) ?_ ?_ hk
    · simp only [Instr.sliceAt, Instr.slice, Sem.run_bind, run_underlying ht, Result.andThen_ok, hrun, run_sizeOf' hti, Sem.run_pure]
    · simp only [VRel, TRel, hlen]
      refine ⟨_, c - l, rfl, by omega, ?_⟩
      by_cases hz : m - l = 0
      · exact .inl hz
      · refine .inr ?_
        rcases hr with hr | ⟨b, off, rfl, hF, hrows⟩
        · omega
        · rw [if_neg (by omega)]
          exact ⟨b, off + l * i.size, by simp [addr_add], hF, (hrows.take m).drop l⟩
  · simp only [VRel] at hr
    rw [hr]
    obtain ⟨l, m, hlm, hmn, hk, hrun⟩ := slice_run (P := P) he hl hh true (Nat.le_refl 0) (.inl rfl) hk x.w
    have hm0 : m = 0 := by omega
    have hl0 : l = 0 := by omega
    subst hm0 hl0
    refine Step.pure hx (v := .slice none 0 0) ?_ (by simp [VRel]) hk
    simp only [Instr.sliceAt, Instr.slice, Sem.run_bind, run_underlying ht, Result.andThen_ok, hrun, run_sizeOf' hti, Sem.run_pure]
    simp
  · rename_i id g off len
    obtain ⟨sz, rows, ho, hk2⟩ := onSlc_some hk
    obtain ⟨rfl, rfl, hk⟩ := hk2
    simp only [VRel] at hr
    obtain ⟨ob, ho', _, ad, c, hv, hc, hr⟩ := hr
    rw [ho] at ho'
    obtain rfl := Option.some.inj ho'
    rw [hv]
    obtain ⟨l, m, hlm, hmn, hk, hrun⟩ := slice_run (P := P) he hl hh true hc (.inl rfl) hk x.w
    refine Step.pure hx (v := .slice (if c = l then ad else ad.map (·.add (l * i.size))) (m - l) (c - l)) ?_ ?_ hk
    · simp only [Instr.sliceAt, Instr.slice, Sem.run_bind, run_underlying ht, Result.andThen_ok, hrun, run_sizeOf' hti, Sem.run_pure]
    · simp only [VRel]
      refine ⟨_, ho, Nat.le_refl _, _, c - l, rfl, by omega, fun _ => ?_⟩
      obtain ⟨h1, h2, h3⟩ := hr rfl
      refine ⟨by omega, ?_, fun h0 hlen => ?_⟩
      · by_cases hz : m - l = 0
        · exact .inl hz
        · rcases h2 with h2 | ⟨b, hb, rfl⟩
          · omega
          · rw [if_neg (by omega)]
            exact .inr ⟨b, hb, by simp [addr_add, Nat.add_mul]⟩
      · have hl0 : l = 0 := by omega
        have ho0 : off = 0 := by omega
        subst hl0 ho0
        obtain ⟨k1, k2⟩ := h3 rfl (by omega)
        subst k1 k2
        refine ⟨?_, rfl⟩
        cases (x.ρ id).blk <;> simp [addr_add]
  · exact hk.elim

theorem step_index (hx : WRel x) (he : ERel x e a.tmps) {p q : Operand} {o1 o2 : O} (hp : cO p = some o1) (hq : cO q = some o2) {t : TypeId} (ht : P.underlying t = some .string)
    {K : Tok → Option V → Store → Prop} (hk : ev e x.σ K (.index o1 o2)) : Step P x (do pure (Next.value (← Instr.index t (a.eval p) (a.eval q)))) K := by
  obtain ⟨u, hu, hk1⟩ := onV_some hk
  clear hk
  obtain ⟨v, hv, hk⟩ := onV_some hk1
  clear hk1
  have hr := opv_rel he hp hu
  have hs := opv_rel he hq hv
  unfold evIndex at hk
  split at hk
  · rename_i s k n
    rw [rel_str hr, rel_int hs]
    · obtain ⟨h0, hk⟩ := hk
      obtain ⟨b, hb, hk⟩ := onRow_some hk
      refine Step.pure hx (v := .int .u8 b.toNat) ?_ (mk_int _ _) hk
      have hb' : (⟨s.toArray⟩ : ByteArray)[n.toNat]? = some b := by
        have h1 := (List.getElem?_eq_some_iff.1 hb)
        obtain ⟨h1, h2⟩ := h1
        rw [getElem?_pos (⟨s.toArray⟩ : ByteArray) n.toNat (by simpa [ByteArray.size] using h1)]
        simp only [Option.some.injEq]
        rw [← h2]
        rfl
      simp [Instr.index, asIntOf, run_underlying ht, h0, hb']
  · exact hk.elim

theorem step_indexAddr (hx : WRel x) (he : ERel x e a.tmps) {p q : Operand} {o1 o2 : O} (hp : cO p = some o1) (hq : cO q = some o2) {t et : TypeId} {i : TypeInfo} (ht : P.underlying t = some (.slice et)) (hti : P.info? et = some i)
    {K : Tok → Option V → Store → Prop} (hk : ev e x.σ K (.indexAddr i.size o1 o2)) : Step P x (do pure (Next.value (← Instr.indexAt t (a.eval p) (a.eval q)))) K := by
  obtain ⟨u, hu, hk1⟩ := onV_some hk
  clear hk
  obtain ⟨v, hv, hk⟩ := onV_some hk1
  clear hk1
  have hr := opv_rel he hp hu
  have hs := opv_rel he hq hv
  unfold evIndexAddr at hk
  split at hk
  · rename_i sz rows k n
    rw [rel_int hs]
    obtain ⟨rfl, h0, hk⟩ := hk
    obtain ⟨r, hrow, hk⟩ := onRow_some hk
    simp only [VRel, TRel] at hr
    obtain ⟨ad, c, hv, hc, hr⟩ := hr
    rw [hv]
    have hlt : n.toNat < rows.length := (List.getElem?_eq_some_iff.1 hrow).1
    rcases hr with hr | ⟨b, off, rfl, hF, hrows⟩
    · omega
    · refine Step.pure hx (v := .pointer (some ⟨b, off + n.toNat * i.size, none⟩)) ?_ (by simp only [VRel]; exact ⟨b, _, rfl, hF, (hrows.get hrow).2⟩) hk
      simp only [Instr.indexAt, asIntOf, Sem.run_bind, Sem.run_pure, Result.andThen_ok, run_underlying ht, run_sizeOf' hti, if_pos (show 0 ≤ n ∧ n < (rows.length : Int) from ⟨h0, by omega⟩), addr_add]
  · rename_i id g off len k n
    rw [rel_int hs]
    obtain ⟨sz, rows, hob, rfl, rfl, h0, hlt, hk⟩ := onSlc_some hk
    simp only [VRel] at hr
    obtain ⟨o, ho, hg, ad, c, hv, hc, hr⟩ := hr
    rw [hob] at ho
    obtain rfl := Option.some.inj ho
    have hr := hr rfl
    simp only [SlOk] at hr
    rw [hv]
    rcases hr.2.1 with h | ⟨b, hb, rfl⟩
    · omega
    · refine Step.pure hx (v := .pointer (some ⟨b, off * i.size + n.toNat * i.size, none⟩)) ?_ ?_ hk
      · simp only [Instr.indexAt, asIntOf, Sem.run_bind, Sem.run_pure, Result.andThen_ok, run_underlying ht, run_sizeOf' hti, if_pos (show 0 ≤ n ∧ n < (len : Int) from ⟨h0, by omega⟩), addr_add]
      · simp only [VRel]
        exact ⟨_, hob, Nat.le_refl _, _, rfl, fun _ => ⟨b, _, rows, hb, rfl, by rw [← Nat.add_mul]; rfl⟩⟩
  · exact hk.elim

theorem step_lenStr (hx : WRel x) (he : ERel x e a.tmps) {p : Operand} {o : O} (hp : cO p = some o) {t ty : TypeId} (ht : P.underlying t = some .string)
    {K : Tok → Option V → Store → Prop} (hk : ev e x.σ K (.len true o)) : Step P x (do pure (Next.value (← Builtin.len_ #[t] ty #[a.eval p]))) K := by
  obtain ⟨u, hu, hk⟩ := onV_some hk
  have hr := opv_rel he hp hu
  simp only [if_true] at hk
  obtain ⟨n, hn, hk⟩ := onRow_some hk
  · unfold lenStr at hn
    split at hn <;> simp at hn
    subst hn
    rw [rel_str hr]
    exact Step.pure hx (v := goInt _) (by simp [Builtin.len_, run_underlying ht]; rfl) (by simp [goInt, VRel, TRel, ByteArray.size]) hk

theorem step_lenSl (hx : WRel x) (he : ERel x e a.tmps) {p : Operand} {o : O} (hp : cO p = some o) {t ty et : TypeId} (ht : P.underlying t = some (.slice et))
    {K : Tok → Option V → Store → Prop} (hk : ev e x.σ K (.len false o)) : Step P x (do pure (Next.value (← Builtin.len_ #[t] ty #[a.eval p]))) K := by
  obtain ⟨u, hu, hk⟩ := onV_some hk
  have hr := opv_rel he hp hu
  have key : ∀ (n : Nat), (∃ ad c, a.eval p = .slice ad n c) → K .go (some (.t (.int .i64 n))) x.σ → Step P x (do pure (Next.value (← Builtin.len_ #[t] ty #[a.eval p]))) K := by
    rintro n ⟨ad, c, hv⟩ hk
    rw [hv]
    exact Step.pure hx (v := goInt n) (by simp [Builtin.len_, run_underlying ht]) (by simp [goInt, VRel, TRel]) hk
  simp only [Bool.false_eq_true, if_false] at hk
  obtain ⟨n, hn, hk⟩ := onRow_some hk
  · unfold lenSl at hn
    split at hn <;> simp at hn
    all_goals subst hn
    · simp only [VRel, TRel] at hr
      obtain ⟨ad, c, hv, _⟩ := hr
      exact key _ ⟨_, _, hv⟩ hk
    · simp only [VRel] at hr
      exact key 0 ⟨_, _, hr⟩ hk
    · simp only [VRel] at hr
      obtain ⟨_, _, _, ad, c, hv, _⟩ := hr
      exact key _ ⟨_, _, hv⟩ hk
    · simp only [VRel] at hr
      obtain ⟨ad, hv, _⟩ := hr
      exact key _ ⟨_, _, hv⟩ hk

theorem step_extract (hx : WRel x) (he : ERel x e a.tmps) {p : Operand} {o : O} (hp : cO p = some o) (k : Nat) {K : Tok → Option V → Store → Prop} (hk : ev e x.σ K (.extract o k)) : Step P x (do pure (Next.value (← Instr.extract (a.eval p) k))) K := by
  obtain ⟨u, hu, hk⟩ := onV_some hk
  have hr := opv_rel he hp hu
  unfold evExtract at hk
  split at hk
  · rename_i us
    simp only [VRel] at hr
    obtain ⟨l, hv, hl⟩ := hr
    rw [hv]
    obtain ⟨w, hw, hk⟩ := onV_some hk
    obtain ⟨c, hc, hcr⟩ := VsRel.get hl hw
    exact Step.pure hx (v := c) (by simp [Instr.extract, hc]) hcr hk
  · exact hk.elim

theorem step_convInt (hx : WRel x) (he : ERel x e a.tmps) {p : Operand} {o : O} (hp : cO p = some o) {s t : TypeId} {k k' : IntKind} (hs : P.underlying s = some (.int k')) (ht : P.underlying t = some (.int k)) {K : Tok → Option V → Store → Prop} (hk : ev e x.σ K (.convInt k o)) :
    Step P x (do pure (Next.value (← convert s t (a.eval p)))) K := by
  obtain ⟨u, hu, hk⟩ := onV_some hk
  have hr := opv_rel he hp hu
  unfold evConv at hk
  split at hk
  · rw [rel_int hr]
    exact Step.pure hx (v := .int k _) (by simp [convert, run_underlying hs, run_underlying ht, Conv.intToInt]) (mk_int _ _) hk
  · exact hk.elim

theorem fieldOf_some {s : TypeId} {f : Nat} {off n : Nat} {ft : TypeId} (h : fieldOf P s f = some (off, ft, n)) : ∃ fs fd i, P.underlying s = some (.struct fs) ∧ fs[f]? = some fd ∧ P.info? fd.type = some i ∧ off = fd.offset ∧ ft = fd.type ∧ n = i.size := by
  unfold fieldOf at h
  split at h
  · rename_i fs hs
    split at h
    · rename_i fd hf
      split at h
      · rename_i i hi
        simp only [Option.some.injEq, Prod.mk.injEq] at h
        exact ⟨fs, fd, i, hs, hf, hi, h.1.symm, h.2.1.symm, h.2.2.symm⟩
      · cases h
    · cases h
  · cases h

theorem step_fieldAddr (hx : WRel x) (he : ERel x e a.tmps) {p : Operand} {o : O} (hp : cO p = some o) {s ft : TypeId} {f off n : Nat} (hf : fieldOf P s f = some (off, ft, n)) (hn : n ≠ 0) {K : Tok → Option V → Store → Prop} (hk : ev e x.σ K (.fieldAddr off o)) :
    Step P x (do pure (Next.value (← Instr.fieldAt s (a.eval p) f))) K := by
  obtain ⟨fs, fd, i, h1, h2, h3, rfl, rfl, rfl⟩ := fieldOf_some hf
  obtain ⟨u, hu, hk⟩ := onV_some hk
  have hr := opv_rel he hp hu
  have run : ∀ b o', a.eval p = .pointer (some ⟨b, o', none⟩) → (do pure (Next.value (← Instr.fieldAt s (a.eval p) f)) : Sem Next).run P x.w = .ok (.value (.pointer (some ⟨b, o' + fd.offset, none⟩))) x.w := by
    intro b o' hv
    rw [hv]
    simp [Instr.fieldAt, run_underlying h1, h2, Instr.sureAddr, fieldPlace, run_sizeOf' h3, hn, addr_add]
  unfold evFieldAddr at hk
  split at hk
  · simp only [VRel] at hr
    obtain ⟨b, o', hv, hF, hc⟩ := hr
    refine Step.pure hx (run b o' hv) ?_ hk
    simp only [VRel]
    exact ⟨b, _, rfl, hF, hc.drop _⟩
  · simp only [VRel] at hr
    obtain ⟨cs, b, ho, hb, hv⟩ := hr
    refine Step.pure hx (run b _ hv) ?_ hk
    simp only [VRel]
    exact ⟨cs, b, ho, hb, rfl⟩
  · rename_i id g i' j
    simp only [VRel] at hr
    obtain ⟨ob, ho, hg, ad, hv, hr⟩ := hr
    refine Step.pure hx (v := .pointer (some (ad.add fd.offset))) ?_ ?_ hk
    · rw [hv]
      simp [Instr.fieldAt, run_underlying h1, h2, Instr.sureAddr, fieldPlace, run_sizeOf' h3, hn]
    · simp only [VRel]
      refine ⟨ob, ho, hg, _, rfl, fun eq => ?_⟩
      obtain ⟨b, sz, rows, hb, rfl, rfl⟩ := hr eq
      exact ⟨b, sz, rows, hb, rfl, by rw [addr_add, Nat.add_assoc]⟩
  · exact hk.elim

theorem VsRel.length {x : Cx} : ∀ {us : List V} {l : List Value}, VsRel x us l → us.length = l.length
  | [], l, h => by simp only [VsRel] at h; subst h; rfl
  | u :: us, l, h => by
    simp only [VsRel] at h
    obtain ⟨c, cs, rfl, _, h⟩ := h
    simp [VsRel.length h]
theorem VsRel.drop {x : Cx} : ∀ {us : List V} {l : List Value} (k : Nat), VsRel x us l → VsRel x (us.drop k) (l.drop k)
  | [], l, k, h => by simp only [VsRel] at h; subst h; simp [VsRel]
  | u :: us, l, 0, h => by simpa using h
  | u :: us, l, k + 1, h => by
    simp only [VsRel] at h
    obtain ⟨c, cs, rfl, _, h⟩ := h
    simpa using VsRel.drop k h
theorem VsRel.take {x : Cx} : ∀ {us : List V} {l : List Value} (k : Nat), VsRel x us l → VsRel x (us.take k) (l.take k)
  | [], l, k, h => by simp only [VsRel] at h; subst h; simp [VsRel]
  | u :: us, l, 0, h => by simp [VsRel]
  | u :: us, l, k + 1, h => by
    simp only [VsRel] at h
    obtain ⟨c, cs, rfl, hc, h⟩ := h
    simp only [List.take_succ_cons, VsRel]
    exact ⟨c, _, rfl, hc, VsRel.take k h⟩
theorem VsRel.app {x : Cx} : ∀ {us vs : List V} {l m : List Value}, VsRel x us l → VsRel x vs m → VsRel x (us ++ vs) (l ++ m)
  | [], vs, l, m, h, k => by simp only [VsRel] at h; subst h; simpa using k
  | u :: us, vs, l, m, h, k => by
    simp only [VsRel] at h
    obtain ⟨c, cs, rfl, hc, h⟩ := h
    simp only [List.cons_append, VsRel]
    exact ⟨c, _, rfl, hc, VsRel.app h k⟩

/-- A value that is one cell by its abstract form is one cell. -/
theorem one_cell {u : V} {v : Value} (h : VRel x u v) (h1 : one u = true) : v.oneCell' = true := by
  cases u <;> simp [one] at h1 <;> simp only [VRel] at h
  case t y => cases y <;> simp only [TRel] at h <;> first | (subst h; rfl) | (obtain ⟨_, _, rfl, _⟩ := h; rfl)
  case nils => subst h; rfl
  case nilp => subst h; rfl
  case nilf => subst h; rfl
  case nili => subst h; rfl
  case pv => obtain ⟨_, _, rfl, _⟩ := h; rfl
  case ptr => obtain ⟨_, _, _, _, rfl⟩ := h; rfl
  case ep => obtain ⟨_, _, _, _, rfl, _⟩ := h; rfl
  case sl => obtain ⟨_, _, _, _, _, rfl, _⟩ := h; rfl
  case map => obtain ⟨_, _, _, _, _, rfl⟩ := h; rfl
  case rows => obtain ⟨_, rfl, _⟩ := h; rfl
  case fn => obtain ⟨_, rfl, _⟩ := h; rfl
  case iface => obtain ⟨_, rfl, _⟩ := h; rfl

theorem cells_one {v : Value} (h : v.oneCell' = true) : v.cells = #[v] := by cases v <;> first | rfl | simp [Value.oneCell'] at h

theorem cellsOf_rel {u : V} {us : List V} {v : Value} (h : VRel x u v) (hc : cellsOf u = some us) : VsRel x us v.cells.toList := by
  unfold cellsOf at hc
  split at hc
  · obtain rfl := Option.some.inj hc
    simp only [VRel] at h
    obtain ⟨l, rfl, h⟩ := h
    simpa [Value.cells] using h
  · cases hc
  · obtain rfl := Option.some.inj hc
    rename_i h1 h2
    have : one u = true := by cases u <;> first | rfl | exact (h1 _ rfl).elim | exact (h2 _ rfl).elim
    rw [cells_one (one_cell h this)]
    simp only [VsRel]
    exact ⟨v, [], rfl, h, rfl⟩

theorem spanOf_some {t : TypeId} {n : Option Nat} (h : spanOf P t = some n) : ∃ d i, P.underlying t = some d ∧ P.info? t = some i ∧ n = (if isAggD d then some i.size else none) := by
  unfold spanOf at h
  split at h
  · rename_i d i h1 h2
    exact ⟨d, i, h1, h2, (Option.some.inj h).symm⟩
  · cases h
theorem run_isAgg {t : TypeId} {d : TypeDesc} (h : P.underlying t = some d) (w : World) : (isAgg t).run P w = .ok (isAggD d) w := by
  unfold isAgg
  simp only [Sem.run_bind, run_underlying h, Result.andThen_ok]
  cases d <;> rfl

theorem ldV_none {cs : List V} {K : Tok → V → Prop} (h : ldV none cs K) : ∃ u us, cs = u :: us ∧ one u = true ∧ K .go u := by
  cases cs with
  | nil => exact h.elim
  | cons u us => exact ⟨u, us, rfl, h⟩

theorem step_field (hx : WRel x) (he : ERel x e a.tmps) {p : Operand} {o : O} (hp : cO p = some o) {s ft : TypeId} {f off n : Nat} (hf : fieldOf P s f = some (off, ft, n)) {sp : Option Nat} (hs : spanOf P ft = some sp) {K : Tok → Option V → Store → Prop} (hk : ev e x.σ K (.field off sp o)) :
    Step P x (do pure (Next.value (← Instr.field s (a.eval p) f))) K := by
  obtain ⟨fs, fd, i, h1, h2, h3, rfl, rfl, rfl⟩ := fieldOf_some hf
  obtain ⟨d, i', k1, k2, rfl⟩ := spanOf_some hs
  obtain rfl : i' = i := by rw [h3] at k2; exact (Option.some.inj k2).symm
  obtain ⟨u, hu, hk⟩ := onV_some hk
  have hr := opv_rel he hp hu
  unfold evField at hk
  split at hk
  · rename_i cs
    simp only [VRel] at hr
    obtain ⟨l, hv, hl⟩ := hr
    rw [hv]
    by_cases hd : isAggD d = true
    · simp only [hd, if_true, ldV] at hk
      refine Step.pure hx (v := .agg (l.toArray.extract fd.offset (fd.offset + i'.size))) ?_ ?_ hk.2
      · simp [Instr.field, run_underlying h1, h2, asAgg, part, run_isAgg k1, hd, run_sizeOf' h3]
      · simp only [VRel]
        refine ⟨(l.drop fd.offset).take i'.size, ?_, (hl.drop _).take _⟩
        congr 1
        apply Array.ext'
        simp [List.extract_eq_take_drop]
    · simp only [hd, Bool.false_eq_true, if_false] at hk
      obtain ⟨u', us', hcs, _, hk⟩ := ldV_none hk
      have hg : cs[fd.offset]? = some u' := by
        have := congrArg (·[0]?) hcs
        simpa using this
      obtain ⟨c, hc, hcr⟩ := hl.get hg
      refine Step.pure hx (v := c) ?_ hcr hk
      simp [Instr.field, run_underlying h1, h2, asAgg, part, run_isAgg k1, hd, hc]
  · exact hk.elim

theorem loadCells_run {w : World} {b off : Nat} : ∀ {l : List Value}, (∀ j v, l[j]? = some v → w.cell? ⟨b, off + j, none⟩ = some v) → (loadCells ⟨b, off, none⟩ l.length).run P w = .ok l.toArray w := by
  intro l h
  exact run_loadCells_list w ⟨b, off, none⟩ l (fun j v hj => by rw [addr_add]; exact h j v hj)

theorem loadVar_run {t : TypeId} {d : TypeDesc} {i : TypeInfo} (h1 : P.underlying t = some d) (h2 : P.info? t = some i) {w : World} {b off : Nat} {v : Value} {l : List Value} (hl : ∀ j v, l[j]? = some v → w.cell? ⟨b, off + j, none⟩ = some v)
    (hv : (isAggD d = true ∧ l.length = i.size ∧ v = .agg l.toArray) ∨ (isAggD d = false ∧ l[0]? = some v)) : (loadVar t ⟨b, off, none⟩).run P w = .ok v w := by
  unfold loadVar
  rcases hv with ⟨hd, hn, rfl⟩ | ⟨hd, hv⟩
  · simp [run_isAgg h1, hd, run_sizeOf' h2, ← hn, loadCells_run hl]
  · have hc := hl 0 v hv
    rw [Nat.add_zero] at hc
    simp [run_isAgg h1, hd, hc]

theorem TCells.list {F : Nat → Prop} {x : Cx} : ∀ {cs : List T} {b off : Nat}, TCells x.F x.w cs b off → ∃ l : List Value, VsRel x (cs.map .t) l ∧ ∀ j v, l[j]? = some v → x.w.cell? ⟨b, off + j, none⟩ = some v
  | [], b, off, _ => ⟨[], by simp [VsRel], fun j v h => by simp at h⟩
  | c :: cs, b, off, h => by
    simp only [TCells] at h
    obtain ⟨⟨v, hv, hr⟩, h⟩ := h
    obtain ⟨l, hl, hcell⟩ := TCells.list (F := F) h
    refine ⟨v :: l, ?_, fun j u hj => ?_⟩
    · simp only [List.map_cons, VsRel]
      exact ⟨v, l, rfl, by simpa [VRel] using hr, hl⟩
    · cases j with
      | zero => simp at hj; subst hj; simpa using hv
      | succ j =>
        have := hcell j u (by simpa using hj)
        rw [show off + (j + 1) = off + 1 + j by omega]
        exact this

theorem rows_get {sz : Nat} : ∀ {rows : List (List V)} {l : List Value} {i : Nat} {r : List V}, (∀ r ∈ rows, r.length = sz) → VsRel x rows.flatten l → rows[i]? = some r → VsRel x r ((l.drop (i * sz)).take sz)
  | [], _, _, _, _, _, h => by simp at h
  | r' :: rs, l, 0, r, h1, h2, h => by
    simp at h; subst h
    have hr : r'.length = sz := h1 r' (by simp)
    have := (show VsRel x (r' ++ rs.flatten) l by simpa using h2).take sz
    rw [← hr, List.take_left] at this
    simpa [hr] using this
  | r' :: rs, l, i + 1, r, h1, h2, h => by
    have hr : r'.length = sz := h1 r' (by simp)
    have hd := (show VsRel x (r' ++ rs.flatten) l by simpa using h2).drop sz
    rw [← hr, List.drop_left] at hd
    have := rows_get (i := i) (fun r hm => h1 r (by simp [hm])) hd (by simpa using h)
    rw [List.drop_drop, hr] at this
    rw [show (i + 1) * sz = sz + i * sz by rw [Nat.add_mul]; omega]
    exact this

/-- A load: the abstract cells from the address on are related to the cells there. -/
theorem ld_sound {t : TypeId} {n : Option Nat} (hs : spanOf P t = some n) {b off : Nat} {cs : List V} {l : List Value} (hl : VsRel x cs l) (hcell : ∀ j v, l[j]? = some v → x.w.cell? ⟨b, off + j, none⟩ = some v) {K : Tok → V → Prop} (hk : ldV n cs K) :
    ∃ v u, (loadVar t ⟨b, off, none⟩).run P x.w = .ok v x.w ∧ VRel x u v ∧ K .go u := by
  obtain ⟨d, i, h1, h2, rfl⟩ := spanOf_some hs
  by_cases hd : isAggD d = true
  · simp only [hd, if_true, ldV] at hk
    have hlen := hl.length
    refine ⟨.agg (l.take i.size).toArray, _, loadVar_run h1 h2 (l := l.take i.size) (fun j v hj => ?_) (.inl ⟨hd, by simp; omega, rfl⟩), ?_, hk.2⟩
    · rw [List.getElem?_take] at hj
      split at hj
      · exact hcell j v hj
      · cases hj
    · simp only [VRel]
      exact ⟨_, rfl, hl.take _⟩
  · simp only [hd, Bool.false_eq_true, if_false] at hk
    obtain ⟨u, us, rfl, _, hk⟩ := ldV_none hk
    simp only [VsRel] at hl
    obtain ⟨c, cs', rfl, hc, _⟩ := hl
    exact ⟨c, u, loadVar_run h1 h2 hcell (.inr ⟨by simpa using hd, rfl⟩), hc, hk⟩

theorem ldT_ldV {n : Option Nat} {cs : List T} {K : Tok → V → Prop} (h : ldT n cs K) : ldV n (cs.map .t) K := by
  cases n with
  | none => cases cs with
    | nil => exact h
    | cons c cs => exact ⟨rfl, h⟩
  | some n => simpa [ldT, ldV, List.map_take] using h

theorem box_cells {id : Nat} {cs : List V} {b : Nat} (hx : WRel x) (ho : x.σ[id]? = some (.box cs)) (hb : (x.ρ id).blk = some b) :
    ∃ arr ty fr, ¬ x.F b ∧ x.w.heap[b]? = some (.cells arr ty fr) ∧ Unfrozen fr arr.size ∧ VsRel x cs arr.toList ∧ ∀ j, x.w.cell? ⟨b, j, none⟩ = arr[j]? := by
  obtain ⟨b', arr, ty, fr, h1, h2, h3, h4, h5⟩ := hx.objs id _ ho
  rw [h1] at hb
  obtain rfl := Option.some.inj hb
  exact ⟨arr, ty, fr, h2, h3, h4, h5, fun j => by simp [World.cell?, h3]⟩

theorem step_load (hx : WRel x) (he : ERel x e a.tmps) {p : Operand} {o : O} (hp : cO p = some o) {t : TypeId} {n : Option Nat} (hs : spanOf P t = some n) {K : Tok → Option V → Store → Prop} (hk : ev e x.σ K (.load n o)) :
    Step P x (do pure (Next.value (← Instr.loadAt t (a.eval p)))) K := by
  obtain ⟨u, hu, hk⟩ := onV_some hk
  have hr := opv_rel he hp hu
  have fin : ∀ {b off : Nat} {cs : List V} {l : List Value}, a.eval p = .pointer (some ⟨b, off, none⟩) → VsRel x cs l → (∀ j v, l[j]? = some v → x.w.cell? ⟨b, off + j, none⟩ = some v) → ldV n cs (fun _ u => K .go (some u) x.σ) →
      Step P x (do pure (Next.value (← Instr.loadAt t (a.eval p)))) K := by
    intro b off cs l hv hl hcell hk
    obtain ⟨v, u, hrun, hru, hk⟩ := ld_sound hs hl hcell hk
    rw [hv]
    exact Step.pure hx (v := v) (by simp [Instr.loadAt, Instr.sureAddr, hrun]) hru hk
  unfold evLoad at hk
  split at hk
  · rename_i cs
    simp only [VRel] at hr
    obtain ⟨b, off, hv, hF, hc⟩ := hr
    obtain ⟨l, hl, hcell⟩ := TCells.list (F := x.F) hc
    exact fin hv hl hcell (ldT_ldV hk)
  · rename_i id off
    obtain ⟨cs, ho, hk⟩ := onBox_some hk
    simp only [VRel] at hr
    obtain ⟨cs', b, ho', hb, hv⟩ := hr
    obtain ⟨arr, ty, fr, h1, h2, h3, h4, h5⟩ := box_cells hx ho hb
    exact fin hv (h4.drop off) (fun j v hj => by rw [h5]; rw [List.getElem?_drop] at hj; simpa using hj) hk
  · rename_i id g i j
    obtain ⟨sz, rows, ho, hk2⟩ := onSlc_some hk
    clear hk
    obtain ⟨hg, hk2⟩ := hk2
    subst hg
    · obtain ⟨r, hrow, hk⟩ := onRow_some hk2
      · simp only [VRel] at hr
        obtain ⟨ob, ho', _, ad, hv, hr⟩ := hr
        rw [ho] at ho'
        obtain rfl := Option.some.inj ho'
        obtain ⟨b, sz', rows', hb, heq, rfl⟩ := hr rfl
        cases heq
        obtain ⟨h1, _⟩ | ⟨b', arr, ty, fr, l, h1, h2, h3, h4, h5, h6, h7, h8, h9⟩ := hx.objs id _ ho
        · subst h1; simp at hrow
        · rw [h1] at hb
          obtain rfl := Option.some.inj hb
          obtain ⟨l', rfl, hc⟩ : ∃ l', l' = (l.drop (i * sz)).take sz ∧ VsRel x r l' := ⟨_, rfl, rows_get h7 h8 hrow⟩
          have hrl : r.length = sz := h7 r (List.mem_of_getElem? hrow)
          refine fin (l := ((l.drop (i * sz)).take sz).drop j) hv (hc.drop j) (fun k v hk' => ?_) hk
          have hk2 : l[i * sz + j + k]? = some v := by
            rw [List.getElem?_drop, List.getElem?_take] at hk'
            split at hk'
            · rw [List.getElem?_drop] at hk'
              rw [show i * sz + j + k = i * sz + (j + k) by omega]
              exact hk'
            · cases hk'
          have : arr.toList[i * sz + j + k]? = some v := by
            obtain ⟨⟨m, hm⟩, _⟩ := h9
            rw [← hm, List.getElem?_append_left (List.getElem?_eq_some_iff.1 hk2).1]
            exact hk2
          simp only [World.cell?, h3]
          simpa using this
  · exact hk.elim
end
end Go.Ab
