/- That each operation of the model does what its instruction says: literals, bytes and text. Conditions: none (a library of lemmas). -/
import Derived.Test.YtleilaipdhmgeaaAbEa
set_option linter.unusedSimpArgs false
set_option linter.unusedVariables false
set_option linter.defProp false
namespace Go.Ab
section
variable {P : Program} {x : Cx} {e : Env} {a : Act}

theorem fold_set (off : Nat) : ∀ (l : List Value) (s : Nat) (cs : Array Value), off + s + l.length ≤ cs.size →
    ((l.zipIdx s).foldl (fun cs (y : Value × Nat) => cs.setIfInBounds (off + y.2) y.1) cs).toList = cs.toList.take (off + s) ++ l ++ cs.toList.drop (off + s + l.length)
  | [], s, cs, _ => by simp
  | v :: l, s, cs, h => by
    simp only [List.length_cons] at h
    simp only [List.zipIdx_cons, List.foldl_cons]
    rw [fold_set off l (s + 1) _ (by simp; omega)]
    simp only [Array.toList_setIfInBounds]
    have hn : off + s < cs.toList.length := by simp; omega
    rw [List.set_eq_take_append_cons_drop, if_pos hn]
    have ht : (cs.toList.take (off + s)).length = off + s := by simp; omega
    have e1 : (cs.toList.take (off + s) ++ v :: cs.toList.drop (off + s + 1)).take (off + (s + 1)) = cs.toList.take (off + s) ++ [v] := by
      rw [List.take_append, List.take_of_length_le (by omega), ht, show off + (s + 1) - (off + s) = 1 by omega]
      simp
    have e2 : (cs.toList.take (off + s) ++ v :: cs.toList.drop (off + s + 1)).drop (off + (s + 1) + l.length) = cs.toList.drop (off + s + (l.length + 1)) := by
      rw [List.drop_append, List.drop_of_length_le (by omega), ht, show off + (s + 1) + l.length - (off + s) = l.length + 1 by omega]
      simp only [List.nil_append, List.drop_succ_cons, List.drop_drop]
      congr 1
      omega
    rw [e1, e2]
    simp

def PartsOk (place : Nat → Option (Nat × Nat)) : List (Nat × O) → List (Nat × Nat × O) → Prop
  | [], [] => True
  | p :: os, q :: qs => place p.1 = some (q.1, q.2.1) ∧ p.2 = q.2.2 ∧ PartsOk place os qs
  | _, _ => False

theorem fillV_sound (he : ERel x e a.tmps) (place : Nat → Option (Nat × Nat)) {K : Tok → List V → Prop} : ∀ {ps : List (Nat × Operand)} {os : List (Nat × O)} {qs : List (Nat × Nat × O)} {cs : List V} {arr : Array Value},
    partsOf ps = some os → PartsOk place os qs → VsRel x cs arr.toList → fillV e .go cs qs K →
    ∃ arr' cs', Instr.fill place arr (ps.map fun p => (p.1, a.eval p.2)) = some arr' ∧ VsRel x cs' arr'.toList ∧ K .go cs'
  | [], os, qs, cs, arr, h, hq, hr, hk => by
    simp only [partsOf, Option.some.injEq] at h
    subst h
    cases qs with
    | cons _ _ => exact hq.elim
    | nil => exact ⟨arr, cs, rfl, hr, hk⟩
  | (i, p) :: ps, os, qs, cs, arr, h, hq, hr, hk => by
    simp only [partsOf] at h
    split at h
    · rename_i o os' ho hos
      obtain rfl := Option.some.inj h
      cases qs with
      | nil => exact hq.elim
      | cons q qs' =>
      obtain ⟨off, sz, o'⟩ := q
      obtain ⟨hpl, rfl, hq⟩ := hq
      simp only at hpl
      simp only [fillV] at hk
      obtain ⟨u, hu, hk1⟩ := onV_some hk
      obtain ⟨us, hus, hk2⟩ := onRow_some hk1
      obtain ⟨hlen, hle, hk3⟩ := hk2
      have hc := cellsOf_rel (opv_rel he ho hu) hus
      have hcl := hc.length
      have hcs := hr.length
      simp only [Array.length_toList] at hcl hcs
      have hset := fold_set off (a.eval p).cells.toList 0 arr (by simp; omega)
      simp only [Nat.add_zero] at hset
      have hnew : VsRel x (putAt cs off us) ((a.eval p).cells.zipIdx.foldl (fun cs (y : Value × Nat) => cs.setIfInBounds (off + y.2) y.1) arr).toList := by
        rw [← Array.foldl_toList, Array.toList_zipIdx, hset]
        exact hr.putAt hc
      obtain ⟨arr', cs', h1, h2, h3⟩ := fillV_sound he place hos hq hnew hk3
      refine ⟨arr', cs', ?_, h2, h3⟩
      simp only [List.map_cons, Instr.fill, hpl]
      rw [if_neg (by simp; omega)]
      exact h1
    · cases h

theorem placesOf_all {places : List (Nat × Nat)} : ∀ {os : List (Nat × O)} {qs : List (Nat × Nat × O)}, placesOf places os = some qs → PartsOk (fun k => places[k]?) os qs
  | [], qs, h => by simp [placesOf] at h; subst h; exact True.intro
  | (i, o) :: os, qs, h => by
    simp only [placesOf] at h
    split at h
    · rename_i off sz qs' h1 h2
      obtain rfl := Option.some.inj h
      exact ⟨h1, rfl, placesOf_all h2⟩
    · cases h

theorem step_build (hx : WRel x) (he : ERel x e a.tmps) {t : TypeId} {fs : Array Field} {i : TypeInfo} {ps : Array (Nat × Operand)} {os : List (Nat × O)} {pl : List (Nat × Nat)} {z : Value} {zs : List V} {qs : List (Nat × Nat × O)}
    (ht : P.underlying t = some (.struct fs)) (hi : P.info? t = some i) (hps : partsOf ps.toList = some os) (hz : i.zero = some z) (hpl : fieldPlaces P fs = some pl) (hzs : cVs z.cells.toList = some zs) (hqs : placesOf pl os = some qs)
    {K : Tok → Option V → Store → Prop} (hk : ev e x.σ K (.build zs qs)) : Step P x (do pure (Next.value (← Instr.build t (ps.map fun (i, y) => (i, a.eval y))))) K := by
  obtain ⟨arr, cs, h1, h2, h3⟩ := fillV_sound he (fun k => pl[k]?) hps (placesOf_all hqs) (cVs_rel x hzs) hk
  have hb : P.built t (ps.map fun (i, y) => (i, a.eval y)).toList = some arr := by
    unfold Program.built fieldPlaces at *
    simp only [hi, ht, hz, hpl, Array.toList_map]
    simpa using h1
  refine Step.pure hx (v := .agg arr) ?_ ?_ h3
  · simp only [Sem.run_bind, run_build x.w t _ arr hb, Result.andThen_ok, Sem.run_pure]
  · simp only [VRel]
    exact ⟨arr.toList, by simp, h2⟩

theorem litRows_fill {sz : Nat} {K : Tok → List (List V) → Prop} : ∀ {os : List (Nat × O)} {rs : List (List V)}, (∀ r ∈ rs, r.length = sz) → (∀ r ∈ rs, r.all one = true) → litRows e sz .go rs os K →
    fillV e .go rs.flatten (os.map fun p => (p.1 * sz, sz, p.2)) fun t cs => ∃ rs', cs = rs'.flatten ∧ (∀ r ∈ rs', r.length = sz) ∧ (∀ r ∈ rs', r.all one = true) ∧ rs'.length = rs.length ∧ K t rs'
  | [], rs, h1, h2, h => ⟨rs, rfl, h1, h2, rfl, h⟩
  | (i, o) :: os, rs, h1, h2, h => by
    simp only [litRows] at h
    obtain ⟨u, hu, hk1⟩ := onV_some h
    obtain ⟨us, hus, hk2⟩ := onRow_some hk1
    obtain ⟨hlen, hone, hi, hk⟩ := hk2
    have hset : ∀ r ∈ rs.set i us, r.length = sz := fun r hr => by
      rcases List.mem_or_eq_of_mem_set hr with h | h
      · exact h1 r h
      · rw [h]; exact hlen
    have hset1 : ∀ r ∈ rs.set i us, r.all one = true := fun r hr => by
      rcases List.mem_or_eq_of_mem_set hr with h | h
      · exact h2 r h
      · rw [h]; exact hone
    have ih := litRows_fill hset hset1 hk
    have hri : rs[i]? = some rs[i] := by simp [hi]
    have hrl : rs[i].length = sz := h1 _ (List.getElem_mem hi)
    have hput : putAt rs[i] 0 us = us := by simp [putAt, hrl, hlen]
    have hfs := flatten_set (us := us) (j := 0) h1 hri (by omega)
    rw [hput, Nat.add_zero] at hfs
    rw [hfs] at ih
    have hfl := flatten_len h1
    simp only [List.map_cons, fillV, hu, onV, hus, onRow]
    refine ⟨hlen, ?_, ?_⟩
    · rw [hfl, ← Nat.succ_mul]; exact Nat.mul_le_mul_right _ hi
    · simpa using ih

theorem parts_all {sz : Nat} : ∀ (os : List (Nat × O)), PartsOk (fun k => some (k * sz, sz)) os (os.map fun p => (p.1 * sz, sz, p.2))
  | [] => True.intro
  | _ :: os => ⟨rfl, rfl, parts_all os⟩

theorem run_buildSlice' (w : World) {t et : TypeId} {n : Nat} {parts : Array (Nat × Value)} {cells : Array Value} {i : TypeInfo} {z : Value} (hu : P.underlying t = some (.slice et)) (hie : P.info? et = some i) (hz : i.zero = some z) (hpos : 0 < i.size) (hsmall : n * i.size ≤ 16777216)
    (h : Instr.fill (fun k => some (k * i.size, i.size)) (madeCells z.cells (n * i.size)) parts.toList = some cells) (h0 : n = 0 → cells = #[]) :
    (Instr.buildSlice t n parts).run P w = .ok (.slice (some ⟨w.heap.size, 0, none⟩) n n) (w.alloc (.cells cells et)) := by
  by_cases hn : n * i.size = 0
  · have : n = 0 := by rcases Nat.mul_eq_zero.1 hn with h | h <;> omega
    subst this
    have hc := h0 rfl
    subst hc
    simp only [Nat.zero_mul, madeCells] at h
    have hm : ∀ f : Nat → Value, Array.map f (Array.range 0) = #[] := fun f => Array.eq_empty_of_size_eq_zero (by simp)
    rw [hm] at h
    simp [Instr.buildSlice, run_underlying hu, run_sizeOf' hie, hm, h, newRow]
  · exact run_buildSlice w t et n parts cells i z hu hie hz (by omega) hn h

theorem VRows_of_list {x : Cx} {b sz : Nat} : ∀ {rs : List (List V)} {off : Nat} {l : List Value}, (∀ r ∈ rs, r.length = sz) → VsRel x rs.flatten l → (∀ j v, l[j]? = some v → x.w.cell? ⟨b, off + j, none⟩ = some v) → VRows x sz rs b off
  | [], _, _, _, _, _ => by simp [VRows]
  | r :: rs, off, l, h1, h2, h3 => by
    have hr : r.length = sz := h1 r (by simp)
    have cells : ∀ {cs : List V} {off : Nat} {l : List Value}, VsRel x cs l → (∀ j v, l[j]? = some v → x.w.cell? ⟨b, off + j, none⟩ = some v) → VCells x cs b off := by
      intro cs
      induction cs with
      | nil => intro _ _ _ _; simp [VCells]
      | cons c cs ih =>
        intro off l h k
        simp only [VsRel] at h
        obtain ⟨v, l', rfl, hv, h⟩ := h
        simp only [VCells]
        refine ⟨⟨v, by simpa using k 0 v rfl, hv⟩, ih h fun j u hj => ?_⟩
        have := k (j + 1) u (by simpa using hj)
        rw [show off + 1 + j = off + (j + 1) by omega]
        exact this
    simp only [VRows]
    have ht := (show VsRel x (r ++ rs.flatten) l by simpa using h2).take sz
    have hd := (show VsRel x (r ++ rs.flatten) l by simpa using h2).drop sz
    rw [← hr, List.take_left] at ht
    rw [← hr, List.drop_left] at hd
    refine ⟨hr, cells ht fun j v hj => ?_, VRows_of_list (fun r hm => h1 r (by simp [hm])) hd fun j v hj => ?_⟩
    · rw [List.getElem?_take] at hj
      split at hj
      · exact h3 j v hj
      · cases hj
    · rw [List.getElem?_drop] at hj
      have := h3 _ v hj
      rw [← hr, show off + r.length + j = off + (r.length + j) by omega]
      exact this

theorem step_lit (hx : WRel x) (he : ERel x e a.tmps) {t et : TypeId} {i : TypeInfo} {z : List V} {n : Nat} {ps : Array (Nat × Operand)} {os : List (Nat × O)} {how : Option Bool}
    (ht : P.underlying t = some (.slice et)) (hti : P.info? et = some i) (hz : zeroOf i = some z) (hps : partsOf ps.toList = some os) (hsmall : n * i.size ≤ 16777216)
    {K : Tok → Option V → Store → Prop} (hk : ev e x.σ K (.lit how i.size n z os)) : Step P x (do pure (Next.value (← Instr.buildSlice t n (ps.map fun (i, y) => (i, a.eval y))))) K := by
  obtain ⟨zv, hzv, hc, hlen, hpos, _⟩ := zeroOf_some hz
  have hzl := cVs_len hc
  have hzs : zv.cells.size = i.size := by simp at hzl; omega
  have hflat : (madeCells zv.cells (n * i.size)).toList = (List.replicate n zv.cells.toList).flatten := by rw [← hzs]; exact made_flat _ _
  have hr0 : VsRel x (List.replicate n z).flatten (madeCells zv.cells (n * i.size)).toList := by rw [hflat]; exact vsrel_rep (cVs_rel x hc) n
  have hk1 := litRows_fill (K := fun t rs => litHow (litK i.size x.σ rs (fun t u σ' => K t (some u) σ') t) how) (fun r hr => by rw [List.eq_of_mem_replicate hr]; exact hlen) (fun r hr => by rw [List.eq_of_mem_replicate hr]; exact cVs_one hc) hk
  obtain ⟨arr, cs, h1, h2, rs, rfl, h3, h4, h5, h6⟩ := fillV_sound he (fun k => some (k * i.size, i.size)) hps (parts_all os) hr0 hk1
  simp only [List.length_replicate] at h5
  have hal := h2.length
  rw [flatten_len h3, h5] at hal
  simp only [Array.length_toList] at hal
  have hrun := run_buildSlice' (P := P) x.w (parts := ps.map fun (i, y) => (i, a.eval y)) ht hti hzv hpos hsmall (cells := arr) (by simpa using h1) (fun h0 => by subst h0; simp at hal; exact Array.eq_empty_of_size_eq_zero hal.symm)
  have fin : ∀ b, litK i.size x.σ rs (fun t u σ' => K t (some u) σ') .go b → Step P x (do pure (Next.value (← Instr.buildSlice t n (ps.map fun (i, y) => (i, a.eval y))))) K := by
    intro b hb
    cases b with
    | true =>
      exact step_slc x hx (Ext.refl x) rfl (rows := rs) (sz := i.size) (cap := n) (arr := arr) (ty := et) (fr := (0, 0)) (l := arr.toList) (unfrozen_new _) (by omega) (by omega) h3 h2 (List.prefix_refl _) (one_flat h2 h4) (by rw [h5]; simp only [Sem.run_bind, hrun, Result.andThen_ok, Sem.run_pure]) hb
    | false =>
      have hext := ext_frz hx (.cells arr et)
      refine ⟨_, x.frz (.cells arr et), _, (by simp only [Sem.run_bind, hrun, Result.andThen_ok, Sem.run_pure]; rfl), hb, ?_, wrel_frz hx _, hext⟩
      simp only [NRel, VRel]
      refine ⟨_, by rw [h5], .inr ⟨x.w.heap.size, 0, rfl, .inr rfl, VRows_of_list h3 (VsRel.mono hext _ _ h2) fun j v hj => ?_⟩⟩
      have hn : (x.frz (.cells arr et)).w.heap[x.w.heap.size]? = some (.cells arr et) := heap_alloc_new _ _
      simp only [World.cell?, hn]
      simpa using hj
  cases how with
  | none => obtain ⟨b, hb⟩ := h6; exact fin b hb
  | some b => exact fin b h6

/-! ### bytes and text -/
theorem bytesOf_vals {x : Cx} : ∀ {rs : List (List V)} {s : List UInt8} {l : List Value}, bytesOf rs = some s → VsRel x rs.flatten l → ∃ ns : List Int, l = ns.map (Value.int .u8) ∧ ns.map (fun n => UInt8.ofNat n.toNat) = s
  | [], s, l, h, hl => by
    simp only [bytesOf, Option.some.injEq] at h
    subst h
    simp only [List.flatten_nil, VsRel] at hl
    subst hl
    exact ⟨[], rfl, rfl⟩
  | r :: rs, s, l, h, hl => by
    unfold bytesOf at h
    split at h
    · rename_i heq; cases heq
    · rename_i n rs' heq
      obtain ⟨rfl, rfl⟩ := List.cons.inj heq
      cases hb : bytesOf rs with
      | none => simp [hb] at h
      | some s' =>
        simp only [hb, Option.map_some, Option.some.injEq] at h
        subst h
        simp only [List.flatten_cons, List.cons_append, List.nil_append, VsRel] at hl
        obtain ⟨c, l', rfl, hc, hl⟩ := hl
        obtain ⟨ns, rfl, hns⟩ := bytesOf_vals hb hl
        exact ⟨n :: ns, by simp [rel_int hc], by simp [hns]⟩
    · cases h

theorem step_bytesStr (hx : WRel x) (he : ERel x e a.tmps) {p : Operand} {o : O} (hp : cO p = some o) {s t et : TypeId} (hs : P.underlying s = some (.slice et)) (het : P.underlying et = some (.int .u8)) (ht : P.underlying t = some .string)
    {K : Tok → Option V → Store → Prop} (hk : ev e x.σ K (.bytesStr o)) : Step P x (do pure (Next.value (← convert s t (a.eval p)))) K := by
  obtain ⟨u, hu, hk1⟩ := onV_some hk
  obtain ⟨rs, hrs, hk2⟩ := onRow_some hk1
  obtain ⟨str, hstr, hk3⟩ := onRow_some hk2
  obtain ⟨ad, c, hv, hrel⟩ := rowsOf_rel hx hrs (opv_rel he hp hu)
  rw [hv]
  have fin : (convert s t (.slice ad rs.length c)).run P x.w = .ok (.string ⟨str.toArray⟩) x.w → Step P x (do pure (Next.value (← convert s t (.slice ad rs.length c)))) K := fun h =>
    Step.pure hx (v := .string ⟨str.toArray⟩) (by simp only [Sem.run_bind, h, Result.andThen_ok, Sem.run_pure]) (mk_str _) hk3
  apply fin
  rw [run_convert_bytes_string x.w s t et ad rs.length c hs het ht]
  rcases hrel with rfl | ⟨b, off, l, rfl, h1, h2, h3, h4⟩
  · simp only [bytesOf, Option.some.injEq] at hstr
    subst hstr
    cases ad with
    | none => simp [Conv.bytesToString]; rfl
    | some ad =>
      exact run_bytesToString x.w ad 0 c [] (by simp [loadCells, loadCellsFrom])
  · obtain ⟨ns, rfl, hns⟩ := bytesOf_vals hstr h2
    have hll := flat_len' h1 h2
    simp only [List.length_map, Nat.mul_one] at hll
    rw [run_bytesToString x.w ⟨b, off, none⟩ rs.length c ns (by rw [← hll]; have := loadCells_run (P := P) h3; simpa using this), foldl_push_bytes]
    simp [hns]

theorem byteRows_flat (s : List UInt8) : (byteRows s).flatten = s.map fun b => V.t (.int .u8 b.toNat) := by
  induction s with
  | nil => rfl
  | cons b s ih => simp only [byteRows, List.map_cons, List.flatten_cons] at ih ⊢; rw [ih]; rfl
theorem vsrel_bytes (x : Cx) : ∀ s : List UInt8, VsRel x (s.map fun b => V.t (.int .u8 b.toNat)) (s.map fun b => Value.int .u8 b.toNat)
  | [] => by simp [VsRel]
  | b :: s => by
    simp only [List.map_cons, VsRel]
    exact ⟨_, _, rfl, mk_int _ _, vsrel_bytes x s⟩

theorem freeze_new (w : World) (cs : Array Value) (t : TypeId) : (w.alloc (.cells cs t)).freeze ⟨w.heap.size, cs.size, none⟩ 1 = w.alloc (.cells cs t (cs.size, cs.size + 1)) := by
  simp only [World.freeze, World.alloc, show ¬ (1 = 0) by omega, if_false]
  congr 1
  apply Array.ext_getElem?
  intro k
  rw [Array.getElem?_modify]
  by_cases h : w.heap.size = k
  · subst h
    simp
  · rw [if_neg h, Array.getElem?_push, Array.getElem?_push]
    simp [Ne.symm h]

theorem step_strBytes (hx : WRel x) (he : ERel x e a.tmps) {p : Operand} {o : O} (hp : cO p = some o) {s t et : TypeId} (hs : P.underlying s = some .string) (ht : P.underlying t = some (.slice et)) (het : P.underlying et = some (.int .u8))
    {K : Tok → Option V → Store → Prop} (hk : ev e x.σ K (.strBytes o)) : Step P x (do pure (Next.value (← convert s t (a.eval p)))) K := by
  obtain ⟨u, hu, hk1⟩ := onV_some hk
  have hr := opv_rel he hp hu
  unfold evStrBytes at hk1
  split at hk1
  · rename_i str
    rw [rel_str hr]
    have hrun := Lib.run_convert_string_bytes (P := P) x.w s t et ⟨str.toArray⟩ hs ht het
    have hsz : (⟨str.toArray⟩ : ByteArray).size = str.length := by simp [ByteArray.size]
    rw [hsz] at hrun
    have hge := grownCap_ge x.w str.length 0 et
    have hcs : (Lib.bytesCells x.w et ⟨str.toArray⟩).size = grownCap x.w str.length 0 et := by simp [Lib.bytesCells, hsz]; omega
    have hpre : (str.map fun b => Value.int .u8 b.toNat) <+: (Lib.bytesCells x.w et ⟨str.toArray⟩).toList := by simp [Lib.bytesCells]
    have hworld : Lib.bytesWorld x.w et ⟨str.toArray⟩ = x.w.drew.alloc (.cells (Lib.bytesCells x.w et ⟨str.toArray⟩) et ((Lib.bytesCells x.w et ⟨str.toArray⟩).size, (Lib.bytesCells x.w et ⟨str.toArray⟩).size + 1)) := by
      unfold Lib.bytesWorld
      generalize Lib.bytesCells x.w et ⟨str.toArray⟩ = cs
      exact freeze_new x.w.drew cs et
    rw [hworld] at hrun
    have hlen : (byteRows str).length = str.length := by simp [byteRows]
    refine step_slc { x with w := x.w.drew } (wrel_drew hx) (ext_drew x) rfl (rows := byteRows str) (sz := 1) (cap := grownCap x.w str.length 0 et) (l := str.map fun b => Value.int .u8 b.toNat) (arr := Lib.bytesCells x.w et ⟨str.toArray⟩) (ty := et)
      (fr := ((Lib.bytesCells x.w et ⟨str.toArray⟩).size, (Lib.bytesCells x.w et ⟨str.toArray⟩).size + 1)) (fun j hj => by simp; omega) (by omega) (by omega) (fun r hr => ?_) ?_ hpre ?_ (by rw [hlen]; simp only [Sem.run_bind, hrun, Result.andThen_ok, Sem.run_pure]; rfl) (by rw [hlen]; exact hk1)
    · simp only [byteRows, List.mem_map] at hr
      obtain ⟨b, _, rfl⟩ := hr
      rfl
    · rw [byteRows_flat]; exact vsrel_bytes _ _
    · intro v hv
      obtain ⟨b, _, rfl⟩ := List.mem_map.1 hv
      rfl
  · exact hk1.elim
end
end Go.Ab
