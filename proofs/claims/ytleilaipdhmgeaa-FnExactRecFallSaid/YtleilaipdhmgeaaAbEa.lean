/- That each operation of the model does what its instruction says: what makes or grows slices, builds structs, turns bytes to text. Conditions: none (a library of lemmas). -/
import Derived.Test.YtleilaipdhmgeaaAbE
import Derived.Laws.MakeOwn
import Derived.Lib.ConvBytes
import Derived.Laws.Tables
import Derived.Great.BuildSlice
import Derived.Laws.BytesArg
import Derived.Laws.BytesString
set_option linter.unusedSimpArgs false
set_option linter.unusedVariables false
set_option linter.defProp false
namespace Go.Ab
section
variable {P : Program} {x : Cx} {e : Env} {a : Act}

theorem cV0_one {v : Value} {u : V} (h : cV0 v = some u) : one u = true := by
  unfold cV0 at h
  split at h <;> first | (obtain rfl := Option.some.inj h; rfl) | cases h
theorem cVs_one : ∀ {vs : List Value} {us : List V}, cVs vs = some us → us.all one = true
  | [], us, h => by simp [cVs] at h; subst h; rfl
  | v :: vs, us, h => by
    simp only [cVs] at h
    split at h
    · rename_i u us' h1 h2
      obtain rfl := Option.some.inj h
      simp [cV0_one h1, cVs_one h2]
    · cases h

/-- A new slice of the program's own. -/
theorem step_slc (x1 : Cx) (hx1 : WRel x1) (hext : Ext x x1) (hσ : x1.σ = x.σ) {sz cap : Nat} {rows : List (List V)} {arr : Array Value} {ty : TypeId} {fr : Nat × Nat} {l : List Value}
    (hfr : Unfrozen fr arr.size) (hcap : rows.length ≤ cap) (hsz : cap * sz ≤ arr.size) (hr : ∀ r ∈ rows, r.length = sz) (hl : VsRel x1 rows.flatten l) (hp : l <+: arr.toList) (h1 : ∀ v ∈ l, v.oneCell' = true)
    {s : Sem Next} (hs : s.run P x.w = .ok (.value (.slice (some ⟨x1.w.heap.size, 0, none⟩) rows.length cap)) (x1.w.alloc (.cells arr ty fr)))
    {K : Tok → Option V → Store → Prop} (hk : K .go (some (.sl x.σ.length rows.length 0 rows.length)) (x.σ ++ [.slc sz rows])) : Step P x s K := by
  rw [← hσ] at hk
  have hw : WRel (x1.neu (.slc sz rows) cap (.cells arr ty fr)) := by
    refine wrel_neu hx1 (.inr ⟨x1.w.heap.size, arr, ty, fr, l, by simp [Cx.neu], fun hF => ?_, heap_alloc_new _ _, hfr, by simpa [Cx.neu] using hcap, by simpa [Cx.neu] using hsz, hr, vsrel_neu hx1 hl, hp, h1⟩)
    have := hx1.low _ hF
    omega
  refine ⟨_, x1.neu (.slc sz rows) cap (.cells arr ty fr), _, hs, hk, ?_, hw, hext.trans (ext_neu hx1 _ _ _)⟩
  simp only [NRel, VRel]
  refine ⟨.slc sz rows, by simp [Cx.neu], by simp [Obj.gen], _, _, rfl, hcap, fun _ => ?_⟩
  simp only [SlOk, Cx.neu, upd_same]
  exact ⟨by omega, .inr ⟨_, rfl, by simp⟩, fun _ _ => ⟨by simp, trivial⟩⟩

theorem zeroOf_some {i : TypeInfo} {cs : List V} (h : zeroOf i = some cs) : ∃ z, i.zero = some z ∧ cVs z.cells.toList = some cs ∧ cs.length = i.size ∧ 0 < i.size ∧ 0 < i.bytes := by
  unfold zeroOf at h
  split at h
  · rename_i z hz
    split at h
    · rename_i cs' hc
      split at h
      · rename_i h0
        obtain rfl := Option.some.inj h
        exact ⟨z, hz, hc, h0⟩
      · cases h
    · cases h
  · cases h

theorem cVs_len : ∀ {vs : List Value} {us : List V}, cVs vs = some us → us.length = vs.length
  | [], us, h => by simp [cVs] at h; subst h; rfl
  | v :: vs, us, h => by
    simp only [cVs] at h
    split at h
    · rename_i u us' h1 h2
      obtain rfl := Option.some.inj h
      simp [cVs_len h2]
    · cases h

theorem range_flat (z : List Value) : ∀ n, (List.range (n * z.length)).map (fun k => z.toArray[k % z.toArray.size]!) = (List.replicate n z).flatten
  | 0 => by simp
  | n + 1 => by
    rw [Nat.succ_mul, List.range_add, List.map_append, range_flat z n, List.replicate_succ', List.flatten_append]
    congr 1
    simp only [List.map_map, List.flatten_cons, List.flatten_nil, List.append_nil]
    apply List.ext_getElem?
    intro k
    by_cases hk : k < z.length
    · simp [hk, Nat.mod_eq_of_lt hk]
    · simp [hk]
theorem made_flat (zc : Array Value) (n : Nat) : (madeCells zc (n * zc.size)).toList = (List.replicate n zc.toList).flatten := by
  have := range_flat zc.toList n
  simpa [madeCells] using this

theorem vsrel_rep {cs : List V} {l : List Value} (h : VsRel x cs l) : ∀ n, VsRel x (List.replicate n cs).flatten (List.replicate n l).flatten
  | 0 => by simp [VsRel]
  | n + 1 => by
    simp only [List.replicate_succ, List.flatten_cons]
    exact h.app (vsrel_rep h n)

theorem one_flat {rows : List (List V)} {l : List Value} (h : VsRel x rows.flatten l) (h1 : ∀ r ∈ rows, r.all one = true) : ∀ v ∈ l, v.oneCell' = true := by
  refine one_all h ?_
  simp only [List.all_eq_true, List.mem_flatten] at h1 ⊢
  rintro u ⟨r, hr, hu⟩
  exact h1 r hr u hu

theorem step_mkSl (hx : WRel x) (he : ERel x e a.tmps) {p q : Operand} {o1 o2 : O} (hp : cO p = some o1) (hq : cO q = some o2) {t et : TypeId} {i : TypeInfo} {z : List V} (ht : P.underlying t = some (.slice et)) (hti : P.info? et = some i) (hz : zeroOf i = some z)
    {K : Tok → Option V → Store → Prop} (hk : ev e x.σ K (.mkSl i.size i.bytes z o1 o2)) : Step P x (do pure (Next.value (← Instr.makeSlice t (a.eval p) (a.eval q)))) K := by
  obtain ⟨u, hu, hk1⟩ := onV_some hk
  clear hk
  obtain ⟨v, hv, hk⟩ := onV_some hk1
  clear hk1
  have hr := opv_rel he hp hu
  have hs := opv_rel he hq hv
  unfold evMkSl at hk
  split at hk
  · rename_i k n k' m
    rw [rel_int hr, rel_int hs]
    obtain ⟨h0, hnm, h63, hby, hk⟩ := hk
    obtain ⟨zv, hzv, hc, hlen, hpos, _⟩ := zeroOf_some hz
    have hzl := cVs_len hc
    have hzs : zv.cells.size = i.size := by simp at hzl; omega
    have hzr := cVs_rel x hc
    have hrun := run_make (P := P) x.w t et i zv ht hti hzv k k' n m h0 hnm (by omega) h63
    have hflat : (madeCells zv.cells (m.toNat * i.size)).toList = (List.replicate m.toNat zv.cells.toList).flatten := by rw [← hzs]; exact made_flat _ _
    have hm : List.replicate m.toNat zv.cells.toList = List.replicate n.toNat zv.cells.toList ++ List.replicate (m.toNat - n.toNat) zv.cells.toList := by
      rw [List.replicate_append_replicate]; congr 1; omega
    have hl := vsrel_rep hzr n.toNat
    refine step_slc x hx (Ext.refl x) rfl (rows := List.replicate n.toNat z) (sz := i.size) (cap := m.toNat) (ty := et) (arr := madeCells zv.cells (m.toNat * i.size)) (fr := (0, 0)) (l := (List.replicate n.toNat zv.cells.toList).flatten) (unfrozen_new _) (by simp; omega) (by rw [size_madeCells]; exact Nat.le_refl _) ?_ hl ?_ ?_ (by simp only [Sem.run_bind, hrun, Result.andThen_ok, Sem.run_pure, List.length_replicate]) (by simpa using hk)
    · intro r hr'
      rw [List.eq_of_mem_replicate hr']
      exact hlen
    · rw [hflat, hm, List.flatten_append]
      exact List.prefix_append _ _
    · refine one_flat hl fun r hr' => ?_
      rw [List.eq_of_mem_replicate hr']
      exact cVs_one hc
  · exact hk.elim

/-! ### the elements of a slice -/
theorem TRows.list {F : Nat → Prop} {x : Cx} {sz : Nat} : ∀ {rows : List (List T)} {b off : Nat}, TRows x.F x.w sz rows b off → (∀ r ∈ rows, r.length = sz) ∧ ∃ l : List Value, VsRel x (rows.map fun r => r.map V.t).flatten l ∧ ∀ j v, l[j]? = some v → x.w.cell? ⟨b, off + j, none⟩ = some v
  | [], b, off, _ => ⟨by simp, [], by simp [VsRel], fun j v h => by simp at h⟩
  | r :: rs, b, off, h => by
    simp only [TRows] at h
    obtain ⟨h1, h2, h3⟩ := h
    obtain ⟨l1, k1, k2⟩ := TCells.list (F := F) h2
    obtain ⟨g0, l2, g1, g2⟩ := TRows.list (F := F) h3
    have hl1 : l1.length = sz := by have := k1.length; simp at this; omega
    refine ⟨by simpa using ⟨h1, g0⟩, l1 ++ l2, by simpa using k1.app g1, fun j v hj => ?_⟩
    rw [List.getElem?_append] at hj
    split at hj
    · exact k2 j v hj
    · rename_i hlt
      have := g2 _ v hj
      rw [show off + sz + (j - l1.length) = off + j by omega] at this
      exact this

theorem VCells.list {x : Cx} : ∀ {cs : List V} {b off : Nat}, VCells x cs b off → ∃ l : List Value, VsRel x cs l ∧ ∀ j v, l[j]? = some v → x.w.cell? ⟨b, off + j, none⟩ = some v
  | [], b, off, _ => ⟨[], by simp [VsRel], fun j v h => by simp at h⟩
  | c :: cs, b, off, h => by
    simp only [VCells] at h
    obtain ⟨⟨v, hv, hr⟩, h⟩ := h
    obtain ⟨l, hl, hcell⟩ := VCells.list h
    refine ⟨v :: l, ?_, fun j u hj => ?_⟩
    · simp only [VsRel]
      exact ⟨v, l, rfl, hr, hl⟩
    · cases j with
      | zero => simp at hj; subst hj; simpa using hv
      | succ j =>
        have := hcell j u (by simpa using hj)
        rw [show off + (j + 1) = off + 1 + j by omega]
        exact this
theorem VRows.list {x : Cx} {sz : Nat} : ∀ {rows : List (List V)} {b off : Nat}, VRows x sz rows b off → (∀ r ∈ rows, r.length = sz) ∧ ∃ l : List Value, VsRel x rows.flatten l ∧ ∀ j v, l[j]? = some v → x.w.cell? ⟨b, off + j, none⟩ = some v
  | [], b, off, _ => ⟨by simp, [], by simp [VsRel], fun j v h => by simp at h⟩
  | r :: rs, b, off, h => by
    simp only [VRows] at h
    obtain ⟨h1, h2, h3⟩ := h
    obtain ⟨l1, k1, k2⟩ := VCells.list h2
    obtain ⟨g0, l2, g1, g2⟩ := VRows.list h3
    have hl1 : l1.length = sz := by have := k1.length; omega
    refine ⟨by simpa using ⟨h1, g0⟩, l1 ++ l2, by simpa using k1.app g1, fun j v hj => ?_⟩
    rw [List.getElem?_append] at hj
    split at hj
    · exact k2 j v hj
    · rename_i hlt
      have := g2 _ v hj
      rw [show off + sz + (j - l1.length) = off + j by omega] at this
      exact this

theorem flat_drop {sz : Nat} : ∀ {rows : List (List V)} (k : Nat), (∀ r ∈ rows, r.length = sz) → (rows.drop k).flatten = rows.flatten.drop (k * sz)
  | [], k, _ => by simp
  | r :: rs, 0, _ => by simp
  | r :: rs, k + 1, h => by
    have hr : r.length = sz := h r (by simp)
    simp only [List.drop_succ_cons, List.flatten_cons]
    rw [flat_drop k (fun r hm => h r (by simp [hm])), Nat.succ_mul, Nat.add_comm (k * sz), ← hr, List.drop_length_add_append]
theorem flat_take {sz : Nat} : ∀ {rows : List (List V)} (k : Nat), (∀ r ∈ rows, r.length = sz) → (rows.take k).flatten = rows.flatten.take (k * sz)
  | [], k, _ => by simp
  | r :: rs, 0, _ => by simp
  | r :: rs, k + 1, h => by
    have hr : r.length = sz := h r (by simp)
    simp only [List.take_succ_cons, List.flatten_cons]
    rw [flat_take k (fun r hm => h r (by simp [hm])), Nat.succ_mul, Nat.add_comm (k * sz), ← hr, List.take_length_add_append]

/-- What is known of a slice whose elements are rs. -/
theorem rowsOf_rel (hx : WRel x) {sz : Nat} {u : V} {v : Value} {rs : List (List V)} (h : rowsOf x.σ sz u = some rs) (hr : VRel x u v) :
    ∃ ad c, v = .slice ad rs.length c ∧ (rs = [] ∨ ∃ b off l, ad = some ⟨b, off, none⟩ ∧ (∀ r ∈ rs, r.length = sz) ∧ VsRel x rs.flatten l ∧ (∀ j v, l[j]? = some v → x.w.cell? ⟨b, off + j, none⟩ = some v) ∧ (∀ v ∈ l, v.oneCell' = true)) := by
  unfold rowsOf at h
  split at h
  · obtain rfl := Option.some.inj h
    simp only [VRel] at hr
    exact ⟨none, 0, hr, .inl rfl⟩
  · rename_i s rows
    split at h
    · rename_i hs
      subst hs
      obtain rfl := Option.some.inj h
      simp only [VRel, TRel] at hr
      obtain ⟨ad, c, hv, hc, hr⟩ := hr
      refine ⟨ad, c, by simpa using hv, ?_⟩
      rcases hr with hr | ⟨b, off, rfl, hF, hrows⟩
      · exact .inl (by simp at hr; simp [hr])
      · obtain ⟨h1, l, h2, h3⟩ := TRows.list (F := x.F) hrows
        refine .inr ⟨b, off, l, rfl, ?_, h2, h3, one_flat h2 ?_⟩
        · intro r hr
          obtain ⟨r', hr', rfl⟩ := List.mem_map.1 hr
          simpa using h1 r' hr'
        · intro r hr
          obtain ⟨r', hr', rfl⟩ := List.mem_map.1 hr
          simp [one]
    · cases h
  · rename_i s rs'
    split at h
    · rename_i hs
      obtain ⟨rfl, hone⟩ := hs
      obtain rfl := Option.some.inj h
      simp only [VRel] at hr
      obtain ⟨ad, hv, hr⟩ := hr
      refine ⟨ad, _, hv, ?_⟩
      rcases hr with hr | ⟨b, off, rfl, hF, hrows⟩
      · exact .inl (List.eq_nil_of_length_eq_zero hr)
      · obtain ⟨h1, l, h2, h3⟩ := VRows.list hrows
        exact .inr ⟨b, off, l, rfl, h1, h2, h3, one_flat h2 (by simpa using hone)⟩
    · cases h
  · rename_i id g off len
    split at h
    · rename_i s rows ho
      split at h
      · rename_i hs
        obtain ⟨rfl, rfl⟩ := hs
        obtain rfl := Option.some.inj h
        simp only [VRel] at hr
        obtain ⟨ob, ho', _, ad, c, hv, hc, hr⟩ := hr
        rw [ho] at ho'
        obtain rfl := Option.some.inj ho'
        have hr := hr rfl
        simp only [SlOk] at hr
        have hlen : ((rows.drop off).take len).length = len := by simp; omega
        refine ⟨ad, c, by rw [hlen]; exact hv, ?_⟩
        by_cases h0 : len = 0
        · subst h0; exact .inl (by simp)
        · rcases hr.2.1 with h' | ⟨b, hb, rfl⟩
          · exact (h0 h').elim
          · rcases hx.objs id _ ho with ⟨h1, h2⟩ | ⟨b', arr, ty, fr, l, g1, g2, g3, g4, g5, g6, g7, g8, ⟨m, hm⟩, g10⟩
            · subst h1; simp at hr; omega
            · rw [g1] at hb
              obtain rfl := Option.some.inj hb
              have hd := g7
              refine .inr ⟨b', off * s, (l.drop (off * s)).take (len * s), rfl, fun r hr => g7 r (List.mem_of_mem_drop (List.mem_of_mem_take hr)), ?_, ?_, fun v hv => g10 v (List.mem_of_mem_drop (List.mem_of_mem_take hv))⟩
              · rw [flat_take (sz := s) _ (fun r hr => g7 r (List.mem_of_mem_drop hr)), flat_drop (sz := s) _ g7]
                exact (g8.drop _).take _
              · intro j v hj
                rw [List.getElem?_take] at hj
                split at hj
                · rw [List.getElem?_drop] at hj
                  have : arr.toList[off * s + j]? = some v := by
                    rw [← hm, List.getElem?_append_left (List.getElem?_eq_some_iff.1 hj).1]; exact hj
                  simp only [World.cell?, g3]
                  simpa using this
                · cases hj
      · cases h
    · cases h
  · cases h

/-- An own slice that is replaced by a grown one, in a new block. -/
theorem step_moved (hx : WRel x) {id sz cap : Nat} {rows rows' : List (List V)} {arr : Array Value} {ty : TypeId} {l : List Value} (ho : x.σ[id]? = some (.slc sz rows)) (hlt : rows.length < rows'.length)
    (hcap : rows'.length ≤ cap) (hsz : cap * sz ≤ arr.size) (hr : ∀ r ∈ rows', r.length = sz) (hl : VsRel x rows'.flatten l) (hp : l <+: arr.toList) (h1 : ∀ v ∈ l, v.oneCell' = true)
    {s : Sem Next} (hs : s.run P x.w = .ok (.value (.slice (some ⟨x.w.heap.size, 0, none⟩) rows'.length cap)) (x.w.drew.alloc (.cells arr ty)))
    {K : Tok → Option V → Store → Prop} (hk : K .go (some (.sl id rows'.length 0 rows'.length)) (x.σ.set id (.slc sz rows'))) : Step P x s K := by
  have hid := (List.getElem?_eq_some_iff.1 ho).1
  have hlike : Obj.like (.slc sz rows) (.slc sz rows') := rfl
  have hgen : Obj.gen (.slc sz rows) ≤ Obj.gen (.slc sz rows') := by simp [Obj.gen]; omega
  have hne : Obj.gen (.slc sz rows) = Obj.gen (.slc sz rows') → (⟨some x.w.heap.size, cap⟩ : Pl) = x.ρ id := by simp [Obj.gen]; omega
  have hsize : x.w.heap.size ≤ (x.w.drew.alloc (.cells arr ty)).heap.size := by rw [World.size_alloc]; exact Nat.le_succ _
  have hkeep : ∀ k, k < x.w.heap.size → (x.ρ id).blk ≠ some k → (x.w.drew.alloc (.cells arr ty)).heap[k]? = x.w.heap[k]? := fun k hk _ => heap_alloc_lt x.w.drew _ hk
  have hext := ext_put hx (ob := .slc sz rows') (pl := ⟨some x.w.heap.size, cap⟩) (w' := x.w.drew.alloc (.cells arr ty)) ho hlike hgen hne rfl rfl rfl hsize hkeep
  have hw := wrel_put hx (ob := .slc sz rows') (pl := ⟨some x.w.heap.size, cap⟩) (w' := x.w.drew.alloc (.cells arr ty)) ho hlike hgen hne rfl rfl rfl hsize hkeep (fun b hb => .inr (by simp at hb; omega)) (.inr ⟨x.w.heap.size, arr, ty, (0, 0), l, by simp [Cx.put], fun hF => by have := hx.low _ hF; omega, heap_alloc_new x.w.drew _, unfrozen_new _, by simpa [Cx.put] using hcap, by simpa [Cx.put] using hsz, hr, VsRel.mono hext _ _ hl, hp, h1⟩)
  refine ⟨_, _, _, hs, hk, ?_, hw, hext⟩
  simp only [NRel, VRel]
  refine ⟨.slc sz rows', by simp [Cx.put, hid], by simp [Obj.gen], _, _, rfl, hcap, fun _ => ?_⟩
  simp only [SlOk, Cx.put, upd_same]
  exact ⟨by omega, .inr ⟨_, rfl, by simp⟩, fun _ _ => ⟨by simp, trivial⟩⟩

theorem flat_len' {rs : List (List V)} {sz : Nat} {l : List Value} (h1 : ∀ r ∈ rs, r.length = sz) (h2 : VsRel x rs.flatten l) : l.length = rs.length * sz := by
  rw [← h2.length]; exact flatten_len h1

theorem run_append_none {t t' et : TypeId} {i : TypeInfo} (ht : P.underlying t = some (.slice et)) (hti : P.info? et = some i) (v : Value) {base : Option Addr} {n c : Nat} {ad : Option Addr} {c' : Nat} (hv : v = .slice base n c) (hn : n ≤ c) (w : World) :
    (Builtin.append_ #[t, t] t' #[v, .slice ad 0 c']).run P w = .ok v w := by
  subst hv
  cases ad <;> cases base <;> simp [Builtin.append_, run_underlying ht, run_sizeOf' hti, Builtin.lenOf, hn, Builtin.firstCells, loadCells, loadCellsFrom, storeCells]

/-- A nil slice as an object of the program's own. -/
theorem step_empty (hx : WRel x) (sz : Nat) {s : Sem Next} (hs : s.run P x.w = .ok (.value (.slice none 0 0)) x.w)
    {K : Tok → Option V → Store → Prop} (hk : K .go (some (.sl x.σ.length 0 0 0)) (x.σ ++ [.slc sz []])) : Step P x s K := by
  have hext : Ext x ({ x with σ := x.σ ++ [.slc sz []], ρ := upd x.ρ x.σ.length ⟨none, 0⟩ } : Cx) :=
    ⟨rfl, rfl, rfl, Nat.le_refl _, fun _ h => h, fun _ _ => rfl, fun id o ho => ⟨o, get_app ho, o.like_refl, Nat.le_refl _, fun _ => upd_other _ _ _ (by have := (List.getElem?_eq_some_iff.1 ho).1; omega)⟩⟩
  have hw : WRel ({ x with σ := x.σ ++ [.slc sz []], ρ := upd x.ρ x.σ.length ⟨none, 0⟩ } : Cx) := by
    refine ⟨fun id o ho => ?_, fun j k b hjk hj hk' hb => ?_, hx.low⟩
    · by_cases e' : id < x.σ.length
      · have ho' : x.σ[id]? = some o := by
          have : (x.σ ++ [.slc sz []])[id]? = some o := ho
          rwa [List.getElem?_append_left e'] at this
        exact ORel.keep hext (upd_other _ _ _ (by omega)) (fun b _ _ hf => ⟨rfl, hf⟩) (hx.objs id o ho')
      · have : (x.σ ++ [.slc sz []])[id]? = some o := ho
        have hid : id = x.σ.length := by
          have := (List.getElem?_eq_some_iff.1 this).1
          simp at this; omega
        subst hid
        simp at this
        subst this
        exact .inl ⟨rfl, upd_same _ _ _⟩
    · simp only [List.length_append, List.length_singleton] at hj hk' hb ⊢
      by_cases ej : j = x.σ.length
      · subst ej; simp at hb
      · rw [upd_other _ _ _ ej] at hb
        by_cases ek : k = x.σ.length
        · subst ek; simp
        · rw [upd_other _ _ _ ek]
          exact hx.inj j k b hjk (by omega) (by omega) hb
  refine ⟨_, ({ x with σ := x.σ ++ [.slc sz []], ρ := upd x.ρ x.σ.length ⟨none, 0⟩ } : Cx), _, hs, hk, ?_, hw, hext⟩
  simp only [NRel, VRel]
  exact ⟨.slc sz [], by simp, by simp [Obj.gen], _, _, rfl, by simp, fun _ => by simp [SlOk]⟩

theorem step_append (hx : WRel x) (he : ERel x e a.tmps) {p q : Operand} {o1 o2 : O} (hp : cO p = some o1) (hq : cO q = some o2) {t ty et : TypeId} {i : TypeInfo} {z : List V} (ht : P.underlying t = some (.slice et)) (hti : P.info? et = some i) (hz : zeroOf i = some z)
    {K : Tok → Option V → Store → Prop} (hk : ev e x.σ K (.append i.size i.bytes o1 o2)) : Step P x (do pure (Next.value (← Builtin.append_ #[t, t] ty #[a.eval p, a.eval q]))) K := by
  obtain ⟨u, hu, hk1⟩ := onV_some hk
  clear hk
  obtain ⟨v, hv, hk⟩ := onV_some hk1
  clear hk1
  obtain ⟨rs, hrs, hk1⟩ := onRow_some hk
  clear hk
  have hr := opv_rel he hp hu
  have hs := opv_rel he hq hv
  obtain ⟨zv, hzv, hc, hlen, hpos, _⟩ := zeroOf_some hz
  have hzl := cVs_len hc
  have hzs : zv.cells.size = i.size := by simp at hzl; omega
  obtain ⟨ad, c, hqv, hrel⟩ := rowsOf_rel hx hrs hs
  unfold evAppend at hk1
  split at hk1
  · -- nil
    simp only [VRel] at hr
    obtain ⟨hby, h63, hk⟩ := hk1
    rw [hr, hqv]
    have emp : rs = [] → Step P x (do pure (Next.value (← Builtin.append_ #[t, t] ty #[.slice none 0 0, .slice ad rs.length c]))) K := by
      rintro rfl
      have hrun := run_append_none (P := P) (t' := ty) ht hti (.slice none 0 0) (ad := ad) (c' := c) rfl (Nat.le_refl _) x.w
      exact step_empty hx i.size (by simp only [List.length_nil, Sem.run_bind, hrun, Result.andThen_ok, Sem.run_pure]) hk
    rcases hrel with h | ⟨b, off, l, rfl, h1, h2, h3, h4⟩
    · exact emp h
    · by_cases h0 : rs.length = 0
      · exact emp (List.eq_nil_of_length_eq_zero h0)
      · have hll := flat_len' h1 h2
        have hrun := run_append_nil (P := P) x.w t ty et i zv ht hti hzv ⟨b, off, none⟩ rs.length c l hll (fun j v hj => by rw [addr_add]; exact h3 j v hj) (by omega) (by omega) (by simp only [maxBy] at hby; omega)
        have hge := grownCap_ge x.w rs.length 0 et
        refine step_slc { x with w := x.w.drew } (wrel_drew hx) (ext_drew x) rfl (rows := rs) (sz := i.size) (cap := grownCap x.w rs.length 0 et) (l := l) (unfrozen_new _) hge ?_ h1 (VsRel.mono (ext_drew x) _ _ h2) ?_ h4 (by simp only [Sem.run_bind, hrun, Result.andThen_ok, Sem.run_pure]; rfl) hk
        · simp only [Array.size_append, List.size_toArray, size_zeroCells, hzs, hll, ← Nat.add_mul]
          exact Nat.mul_le_mul_right _ (by omega)
        · simp
  · rename_i id g off len
    obtain ⟨s', rows, ho, hk⟩ := onSlc_some hk1
    obtain ⟨rfl, rfl, rfl, rfl, hby, h63, hk⟩ := hk
    simp only [VRel] at hr
    obtain ⟨ob, ho', _, ad', c', hpv, hc', hr⟩ := hr
    rw [ho] at ho'
    obtain rfl := Option.some.inj ho'
    have hr := hr rfl
    simp only [SlOk] at hr
    obtain ⟨_, _, hfull⟩ := hr
    obtain ⟨rfl, rfl⟩ := hfull (by trivial) (by trivial)
    rw [hpv, hqv]
    have hid := (List.getElem?_eq_some_iff.1 ho).1
    have same : rs = [] → Step P x (do pure (Next.value (← Builtin.append_ #[t, t] ty #[.slice ((x.ρ id).blk.map fun b => ⟨b, 0, none⟩) rows.length (x.ρ id).cap, .slice ad rs.length c]))) K := by
      rintro rfl
      have hrun := run_append_none (P := P) (t' := ty) ht hti (.slice ((x.ρ id).blk.map fun b => ⟨b, 0, none⟩) rows.length (x.ρ id).cap) (ad := ad) (c' := c) rfl hc' x.w
      have hset : x.σ.set id (.slc i.size (rows ++ [])) = x.σ := by
        rw [List.append_nil]
        have := (List.getElem?_eq_some_iff.1 ho).2
        rw [← this]
        exact List.set_getElem_self _
      rw [hset] at hk
      refine Step.pure hx (v := .slice ((x.ρ id).blk.map fun b => ⟨b, 0, none⟩) rows.length (x.ρ id).cap) (by simp only [List.length_nil, Sem.run_bind, hrun, Result.andThen_ok, Sem.run_pure]) ?_ hk
      rw [← hpv]
      exact opv_rel he hp hu
    rcases hrel with h | ⟨b, off, l, rfl, h1, h2, h3, h4⟩
    · exact same h
    · by_cases h0 : rs.length = 0
      · exact same (List.eq_nil_of_length_eq_zero h0)
      · have hll := flat_len' h1 h2
        rcases hx.objs id _ ho with ⟨g1, g2⟩ | ⟨b', arr, ty', fr, l', g1, g2, g3, g4, g5, g6, g7, g8, g9, g10⟩
        · -- it has no block yet
          subst g1
          rw [g2]
          simp only [Option.map_none, List.length_nil, Nat.zero_add, List.nil_append] at *
          have hrun := run_append_nil (P := P) x.w t ty et i zv ht hti hzv ⟨b, off, none⟩ rs.length c l hll (fun j v hj => by rw [addr_add]; exact h3 j v hj) (by omega) (by omega) (by simp only [maxBy] at hby; omega)
          have hge := grownCap_ge x.w rs.length 0 et
          refine step_moved hx (rows' := rs) (sz := i.size) (cap := grownCap x.w rs.length 0 et) (l := l) ho (by simp; omega) hge ?_ h1 h2 ?_ h4 (by simp only [Sem.run_bind, hrun, Result.andThen_ok, Sem.run_pure]; rfl) hk
          · simp only [Array.size_append, List.size_toArray, size_zeroCells, hzs, hll, ← Nat.add_mul]
            exact Nat.mul_le_mul_right _ (by omega)
          · simp
        · rw [g1]
          simp only [Option.map_some]
          have hll' := flat_len' g7 g8
          have hrows : ∀ r ∈ rows ++ rs, r.length = i.size := by
            intro r hr
            rcases List.mem_append.1 hr with h | h
            · exact g7 r h
            · exact h1 r h
          obtain ⟨m, hm⟩ := g9
          have hal : arr.toList.length = l'.length + m.length := by rw [← hm]; simp
          have hlapp : VsRel x (rows ++ rs).flatten (l' ++ l) := by rw [List.flatten_append]; exact g8.app h2
          have hones : ∀ v ∈ l' ++ l, v.oneCell' = true := by
            intro v hv
            rcases List.mem_append.1 hv with h | h
            · exact g10 v h
            · exact h4 v h
          by_cases hroom : rows.length + rs.length ≤ (x.ρ id).cap
          · have hfit : (rows.length + rs.length) * i.size ≤ arr.size := Nat.le_trans (Nat.mul_le_mul_right _ hroom) g6
            rw [Nat.add_mul, ← hll, ← hll'] at hfit
            obtain ⟨w', arr', hrun, hh, hla, hsize, k1, k2, k3, hkk⟩ := storeCells_run (P := P) (vs := l) (off := rows.length * i.size) (i := 0) g3 g4 (by omega) h4
            have hf := run_firstCells_some (P := P) x.w i.size rs.length ⟨b, off, none⟩ rs.length c l hll (fun j v hj => by rw [addr_add]; exact h3 j v hj)
            have hrun2 : (Builtin.append_ #[t, t] ty #[.slice (some ⟨b', 0, none⟩) rows.length (x.ρ id).cap, .slice (some ⟨b, off, none⟩) rs.length c]).run P x.w = .ok (.slice (some ⟨b', 0, none⟩) (rows.length + rs.length) (x.ρ id).cap) w' := by
              simp [Builtin.append_, run_underlying ht, run_sizeOf' hti, Builtin.lenOf, hroom, hf, addr_add, hrun]
            have hlike : Obj.like (.slc i.size rows) (.slc i.size (rows ++ rs)) := rfl
            have hgen : Obj.gen (.slc i.size rows) ≤ Obj.gen (.slc i.size (rows ++ rs)) := by simp [Obj.gen]
            have hext := ext_put hx (ob := .slc i.size (rows ++ rs)) (pl := x.ρ id) (w' := w') ho hlike hgen (fun _ => rfl) k1 k2 k3 (by omega) (fun k _ hne => hkk k (fun e => hne (e ▸ g1)))
            have hla' : arr'.toList = l' ++ l ++ arr.toList.drop (l'.length + l.length) := by
              rw [hla, Nat.add_zero, ← hll', ← hm, List.take_left]
            have hsame : arr'.size = arr.size := by
              have := congrArg List.length hla'
              simp at this
              simp at hal
              omega
            refine ⟨_, x.put id (x.ρ id) (.slc i.size (rows ++ rs)) w', _, (by simp only [Sem.run_bind, hrun2, Result.andThen_ok, Sem.run_pure]; rfl), hk, ?_, ?_, hext⟩
            · simp only [NRel, VRel]
              refine ⟨.slc i.size (rows ++ rs), by simp [Cx.put, hid], by simp [Obj.gen], _, _, rfl, hroom, fun _ => ?_⟩
              simp only [SlOk, Cx.put, upd_same]
              refine ⟨by simp, .inr ⟨b', g1, by simp⟩, fun _ _ => ⟨by simp [g1], trivial⟩⟩
            · refine wrel_put hx ho hlike hgen (fun _ => rfl) k1 k2 k3 (by omega) (fun k _ hne => hkk k (fun e => hne (e ▸ g1))) (fun b' hb' => .inl hb') ?_
              refine .inr ⟨b', arr', ty', fr, l' ++ l, by simp [Cx.put, g1], g2, hh, by rw [hsame]; exact g4, by simp [Cx.put]; exact hroom, by rw [hsame]; simp [Cx.put]; exact g6, hrows, VsRel.mono hext _ _ hlapp, ?_, hones⟩
              rw [hla']
              exact List.prefix_append _ _
          · have hrun := run_append_grow (P := P) x.w t ty et i zv ht hti hzv ⟨b', 0, none⟩ rows.length (x.ρ id).cap l' hll' (fun j v hj => by
                rw [addr_add]
                have : arr.toList[j]? = some v := by rw [← hm, List.getElem?_append_left (List.getElem?_eq_some_iff.1 hj).1]; exact hj
                simp only [World.cell?, g3]
                simpa using this) ⟨b, off, none⟩ rs.length c l hll (fun j v hj => by rw [addr_add]; exact h3 j v hj) (by omega) (by omega) (growslice_fits (by omega) hby)
            have hge := grownCap_ge x.w (rows.length + rs.length) (x.ρ id).cap et
            have hl2 : (rows ++ rs).length = rows.length + rs.length := by simp
            rw [← hl2] at hk
            refine step_moved hx (rows' := rows ++ rs) (sz := i.size) (cap := grownCap x.w (rows.length + rs.length) (x.ρ id).cap et) (l := l' ++ l) ho (by simp; omega) (by rw [hl2]; exact hge) ?_ hrows hlapp ?_ hones (by rw [hl2]; simp only [Sem.run_bind, hrun, Result.andThen_ok, Sem.run_pure]; rfl) hk
            · simp only [Array.size_append, List.size_toArray, size_zeroCells, hzs, hll, hll', ← Nat.add_mul]
              exact Nat.mul_le_mul_right _ (by omega)
            · simp
  · exact hk1.elim
end
end Go.Ab
