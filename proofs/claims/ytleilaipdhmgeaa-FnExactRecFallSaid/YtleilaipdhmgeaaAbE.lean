/- That each operation of the model does what its instruction says: new variables, stores, and all instructions together. Conditions: none (a library of lemmas). -/
import Derived.Test.YtleilaipdhmgeaaAbD
set_option linter.unusedSimpArgs false
set_option linter.unusedVariables false
set_option linter.defProp false
namespace Go.Ab
section
variable {P : Program} {x : Cx} {e : Env} {a : Act}

theorem unfrozen_new (n : Nat) : Unfrozen (0, 0) n := fun i _ => by simp

theorem vsrel_neu {x : Cx} (h : WRel x) {ob : Obj} {cap : Nat} {o : Go.Obj} {us : List V} {l : List Value} (hl : VsRel x us l) : VsRel (x.neu ob cap o) us l := VsRel.mono (ext_neu h ob cap o) us l hl

theorem step_box (hx : WRel x) {t : TypeId} {v : Value} {cs : List V} (hv : VsRel x cs v.cells.toList) {K : Tok → Option V → Store → Prop} (hk : K .go (some (.ptr x.σ.length 0)) (x.σ ++ [.box cs])) {s : Sem Next}
    (hs : s.run P x.w = .ok (.value (.pointer (some ⟨x.w.heap.size, 0, none⟩))) (x.w.alloc (.cells v.cells t))) : Step P x s K := by
  have hw : WRel (x.neu (.box cs) 0 (.cells v.cells t)) := by
    refine wrel_neu hx ⟨x.w.heap.size, v.cells, t, (0, 0), by simp [Cx.neu], fun hF => ?_, heap_alloc_new _ _, unfrozen_new _, vsrel_neu hx hv⟩
    have := hx.low _ hF
    omega
  refine ⟨_, x.neu (.box cs) 0 (.cells v.cells t), some (.ptr x.σ.length 0), hs, hk, ?_, hw, ext_neu hx _ _ _⟩
  simp only [NRel, VRel]
  exact ⟨cs, x.w.heap.size, by simp [Cx.neu], by simp [Cx.neu], rfl⟩

theorem step_new (hx : WRel x) {t : TypeId} {i : TypeInfo} {z : Value} {cs : List V} (hi : P.info? t = some i) (hz : i.zero = some z) (hc : cVs z.cells.toList = some cs) {K : Tok → Option V → Store → Prop} (hk : ev e x.σ K (.new cs)) :
    Step P x (do pure (Next.value (← Instr.alloc t true (.tuple #[])))) K := by
  refine step_box hx (v := z) (t := t) (cVs_rel x hc) hk ?_
  simp [Instr.alloc, zeroValue, run_typeInfo' hi, hz, newVar, newRow]

theorem step_boxOp (hx : WRel x) (he : ERel x e a.tmps) {p : Operand} {o : O} (hp : cO p = some o) {t : TypeId} {K : Tok → Option V → Store → Prop} (hk : ev e x.σ K (.box o)) :
    Step P x (do pure (Next.value (← Instr.box t (a.eval p)))) K := by
  obtain ⟨u, hu, hk1⟩ := onV_some hk
  obtain ⟨cs, hcs, hk⟩ := onRow_some hk1
  have hr := opv_rel he hp hu
  exact step_box hx (v := a.eval p) (t := t) (cellsOf_rel hr hcs) hk (by simp [Instr.box, newVar, newRow])

theorem step_nilCheck (hx : WRel x) (he : ERel x e a.tmps) {p : Operand} {o : O} (hp : cO p = some o) {K : Tok → Option V → Store → Prop} (hk : ev e x.σ K (.nilCheck o)) (oper : Oper) (hop : oper.op = .nilCheck p) :
    Step P x (execOp a.eval oper) K := by
  obtain ⟨u, hu, hk⟩ := onV_some hk
  have hr := opv_rel he hp hu
  have fin : ∀ ad, a.eval p = .pointer (some ad) → K .go (some u) x.σ → Step P x (execOp a.eval oper) K := by
    intro ad hv hk
    refine Step.pure hx (v := a.eval p) ?_ hr hk
    simp [execOp, hop, hv]
  unfold nilChk at hk
  split at hk
  · simp only [VRel] at hr; obtain ⟨b, off, hv, _⟩ := hr; exact fin _ hv hk
  · simp only [VRel] at hr; obtain ⟨_, b, _, _, hv⟩ := hr; exact fin _ hv hk
  · simp only [VRel] at hr; obtain ⟨_, _, _, ad, hv, _⟩ := hr; exact fin _ hv hk
  · exact hk.elim

/-! ### stores -/
theorem setCell_heap_ne (w : World) (b j k : Nat) (v : Value) (h : k ≠ b) : (w.setCell ⟨b, j, none⟩ v).heap[k]? = w.heap[k]? := by
  simp only [World.setCell, Array.getElem?_modify]
  rw [if_neg (by omega)]
theorem setCell_heap_eq {w : World} {b j : Nat} {v : Value} {arr : Array Value} {t : TypeId} {fr : Nat × Nat} (h : w.heap[b]? = some (.cells arr t fr)) : (w.setCell ⟨b, j, none⟩ v).heap[b]? = some (.cells (arr.setIfInBounds j v) t fr) := by
  simp [World.setCell, Array.getElem?_modify, h]

theorem storeCells_run {b : Nat} {t : TypeId} {fr : Nat × Nat} : ∀ {vs : List Value} {off i : Nat} {w : World} {arr : Array Value}, w.heap[b]? = some (.cells arr t fr) → Unfrozen fr arr.size → off + i + vs.length ≤ arr.size → (∀ v ∈ vs, v.oneCell' = true) →
    ∃ w' arr', (storeCells ⟨b, off, none⟩ vs i).run P w = .ok () w' ∧ w'.heap[b]? = some (.cells arr' t fr) ∧ arr'.toList = arr.toList.take (off + i) ++ vs ++ arr.toList.drop (off + i + vs.length) ∧
      w'.heap.size = w.heap.size ∧ w'.os = w.os ∧ w'.tape = w.tape ∧ w'.output = w.output ∧ ∀ k, k ≠ b → w'.heap[k]? = w.heap[k]?
  | [], off, i, w, arr, h, _, hl, _ => ⟨w, arr, by simp [storeCells], h, by simp, rfl, rfl, rfl, rfl, fun _ _ => rfl⟩
  | v :: vs, off, i, w, arr, h, hu, hl, h1 => by
    simp only [List.length_cons] at hl
    have hw' := setCell_heap_eq (j := off + i) (v := v) h
    obtain ⟨w2, arr2, hrun, hh, hla, hs, ho, ht, hout, hk⟩ := storeCells_run (vs := vs) (off := off) (i := i + 1) hw' (by simpa using hu) (by simp; omega) (fun u hu => h1 u (by simp [hu]))
    refine ⟨w2, arr2, ?_, hh, ?_, by rw [hs]; simp, ho, ht, hout, fun k hk' => (hk k hk').trans (setCell_heap_ne w b (off + i) k v hk')⟩
    · have hcell : w.cell? ⟨b, off + i, none⟩ = some arr[off + i] := by simp [World.cell?, h, show off + i < arr.size by omega]
      have hfr : w.frozen? ⟨b, off + i, none⟩ = false := by
        simp only [World.frozen?, h]
        exact hu (off + i) (by omega)
      simp only [storeCells, addr_add, Sem.run_bind, run_store P w _ v .plain (h1 v (by simp)), hcell, hfr]
      simpa using hrun
    · rw [hla]
      simp only [Array.toList_setIfInBounds]
      have hn : off + i < arr.toList.length := by simp; omega
      rw [List.set_eq_take_append_cons_drop, if_pos hn]
      have ht : (arr.toList.take (off + i)).length = off + i := by simp; omega
      have e1 : (arr.toList.take (off + i) ++ v :: arr.toList.drop (off + i + 1)).take (off + (i + 1)) = arr.toList.take (off + i) ++ [v] := by
        rw [List.take_append, List.take_of_length_le (by omega), ht, show off + (i + 1) - (off + i) = 1 by omega]
        simp
      have e2 : (arr.toList.take (off + i) ++ v :: arr.toList.drop (off + i + 1)).drop (off + (i + 1) + vs.length) = arr.toList.drop (off + i + (vs.length + 1)) := by
        rw [List.drop_append, List.drop_of_length_le (by omega), ht, show off + (i + 1) + vs.length - (off + i) = vs.length + 1 by omega]
        simp only [List.nil_append, List.drop_succ_cons, List.drop_drop]
        congr 1
        omega
      rw [e1, e2]
      simp

theorem VsRel.putAt {x : Cx} {cs us : List V} {l m : List Value} {off : Nat} (h : VsRel x cs l) (k : VsRel x us m) : VsRel x (putAt cs off us) (l.take off ++ m ++ l.drop (off + m.length)) := by
  unfold Ab.putAt
  rw [k.length]
  exact ((h.take off).app k).app (h.drop _)

theorem one_all {us : List V} {l : List Value} : VsRel x us l → us.all one = true → ∀ v ∈ l, v.oneCell' = true := by
  induction us generalizing l with
  | nil => intro h _; simp only [VsRel] at h; subst h; simp
  | cons u us ih =>
    intro h h1
    simp only [VsRel] at h
    obtain ⟨c, cs, rfl, hc, h⟩ := h
    simp only [List.all_cons, Bool.and_eq_true] at h1
    intro v hv
    simp only [List.mem_cons] at hv
    rcases hv with rfl | hv
    · exact one_cell hc h1.1
    · exact ih h h1.2 v hv

theorem flatten_len {sz : Nat} : ∀ {rows : List (List V)}, (∀ r ∈ rows, r.length = sz) → rows.flatten.length = rows.length * sz
  | [], _ => by simp
  | r :: rs, h => by
    have h1 : r.length = sz := h r (by simp)
    have h2 := flatten_len (rows := rs) (fun r hr => h r (by simp [hr]))
    simp only [List.flatten_cons, List.length_append, List.length_cons, h1, h2, Nat.add_mul]
    omega

theorem putAt_len {cs us : List V} {off : Nat} (h : off + us.length ≤ cs.length) : (putAt cs off us).length = cs.length := by
  unfold putAt
  simp
  omega

theorem flatten_set {sz : Nat} {us : List V} {j : Nat} : ∀ {rows : List (List V)} {i : Nat} {r : List V}, (∀ r ∈ rows, r.length = sz) → rows[i]? = some r → j + us.length ≤ r.length →
    (rows.set i (putAt r j us)).flatten = putAt rows.flatten (i * sz + j) us
  | [], _, _, _, h, _ => by simp at h
  | r' :: rs, 0, r, h1, h, hj => by
    simp at h; subst h
    have hf := flatten_len (rows := rs) (fun r hr => h1 r (by simp [hr]))
    simp only [List.set_cons_zero, List.flatten_cons, putAt, Nat.zero_mul, Nat.zero_add]
    rw [List.take_append_of_le_length (by omega), List.drop_append_of_le_length (by omega)]
    simp
  | r' :: rs, i + 1, r, h1, h, hj => by
    have hr : r'.length = sz := h1 r' (by simp)
    have := flatten_set (rows := rs) (i := i) (r := r) (us := us) (j := j) (fun r hr => h1 r (by simp [hr])) (by simpa using h) hj
    simp only [List.set_cons_succ, List.flatten_cons]
    rw [this]
    simp only [putAt]
    rw [show (i + 1) * sz + j = r'.length + (i * sz + j) by rw [Nat.add_mul]; omega]
    rw [List.take_length_add_append, show r'.length + (i * sz + j) + us.length = r'.length + (i * sz + j + us.length) by omega, List.drop_length_add_append]
    simp

theorem step_store (hx : WRel x) (he : ERel x e a.tmps) {p q : Operand} {o1 o2 : O} (hp : cO p = some o1) (hq : cO q = some o2) {t : TypeId} {i : TypeInfo} (hi : P.info? t = some i) {K : Tok → Option V → Store → Prop} (hk : ev e x.σ K (.store i.size o1 o2)) :
    Step P x (do Instr.storeAt t (a.eval p) (a.eval q); pure Next.skip) K := by
  obtain ⟨u, hu, hk1⟩ := onV_some hk
  clear hk
  obtain ⟨v, hv, hk⟩ := onV_some hk1
  clear hk1
  have hr := opv_rel he hp hu
  have hs := opv_rel he hq hv
  unfold evStore at hk
  obtain ⟨us, hus, hk1⟩ := onRow_some hk
  clear hk
  · obtain ⟨hn, h1, hk⟩ := hk1
    unfold evStoreTo at hk
    have hc := cellsOf_rel hs hus
    have hcl := hc.length
    have hone := one_all hc h1
    have hsz : ((a.eval q).cells.size ≠ i.size) = False := by
      simp only [eq_iff_iff, iff_false, Decidable.not_not]
      rw [← hn, hcl]; simp
    have base : ∀ {b off : Nat} {arr : Array Value} {ty : TypeId} {fr : Nat × Nat}, a.eval p = .pointer (some ⟨b, off, none⟩) → x.w.heap[b]? = some (.cells arr ty fr) → Unfrozen fr arr.size → off + i.size ≤ arr.size →
        ∃ w' arr', (do Instr.storeAt t (a.eval p) (a.eval q); pure Next.skip : Sem Next).run P x.w = .ok .skip w' ∧ w'.heap[b]? = some (.cells arr' ty fr) ∧ arr'.toList = arr.toList.take off ++ (a.eval q).cells.toList ++ arr.toList.drop (off + (a.eval q).cells.toList.length) ∧
          w'.heap.size = x.w.heap.size ∧ w'.os = x.w.os ∧ w'.tape = x.w.tape ∧ w'.output = x.w.output ∧ ∀ k, k ≠ b → w'.heap[k]? = x.w.heap[k]? := by
      intro b off arr ty fr hv hh hf hle
      obtain ⟨w', arr', hrun, h⟩ := storeCells_run (P := P) (vs := (a.eval q).cells.toList) (off := off) (i := 0) hh hf (by rw [← hcl, hn]; omega) hone
      refine ⟨w', arr', ?_, h⟩
      rw [hv]
      simp only [Instr.storeAt, Instr.sureAddr, storeVar, Sem.run_bind, Sem.run_pure, Result.andThen_ok, run_sizeOf' hi, hsz, if_false, hrun]
    split at hk
    · rename_i id off
      obtain ⟨cs, ho, hk⟩ := onBox_some hk
      · simp only [VRel] at hr
        obtain ⟨cs', b, ho', hb, hv⟩ := hr
        obtain ⟨arr, ty, fr, h2, h3, h4, h5, _⟩ := box_cells hx ho hb
        obtain ⟨w', arr', hrun, hh, hl, hsize, k1, k2, k3, hkk⟩ := base hv h3 h4 (by have := h5.length; simp at this; omega)
        have hext := ext_put hx (ob := .box (putAt cs off us)) (pl := x.ρ id) (w' := w') ho trivial (Nat.le_refl _) (fun _ => rfl) k1 k2 k3 (by omega) (fun k _ hne => hkk k (fun e => hne (e ▸ hb)))
        have hsame : arr'.size = arr.size := by
          have := congrArg List.length hl
          simp at this
          have := h5.length; simp at this
          have : off + us.length ≤ cs.length := by omega
          have : (a.eval q).cells.size = us.length := by rw [hcl]; simp
          omega
        refine ⟨_, x.put id (x.ρ id) (.box (putAt cs off us)) w', none, hrun, hk.2, trivial, ?_, hext⟩
        refine wrel_put hx ho trivial (Nat.le_refl _) (fun _ => rfl) k1 k2 k3 (by omega) (fun k _ hne => hkk k (fun e => hne (e ▸ hb))) (fun b' hb' => .inl hb') ?_
        exact ⟨b, arr', ty, fr, by simp [Cx.put, hb], h2, hh, by rw [hsame]; exact h4, by rw [hl]; exact VsRel.mono hext _ _ (h5.putAt hc)⟩
    · rename_i id g i' j
      obtain ⟨sz, rows, ho, hk2⟩ := onSlc_some hk
      clear hk
      obtain ⟨hg, hk2⟩ := hk2
      subst hg
      · obtain ⟨r, hrow, hk⟩ := onRow_some hk2
        · simp only [VRel] at hr
          obtain ⟨ob, ho', _, ad, hv, hr⟩ := hr
          rw [ho] at ho'
          obtain rfl := Option.some.inj ho'
          obtain ⟨b, sz', rows', hb, heq, rfl⟩ := hr rfl
          cases heq
          obtain ⟨hlt, hrget⟩ := List.getElem?_eq_some_iff.1 hrow
          obtain ⟨h1', _⟩ | ⟨b', arr, ty, fr, l, g1, g2, g3, g4, g5, g6, g7, g8, g9⟩ := hx.objs id _ ho
          · subst h1'; simp at hrow
          · rw [g1] at hb
            obtain rfl := Option.some.inj hb
            have hrl : r.length = sz := g7 r (List.mem_of_getElem? hrow)
            have hfl := flatten_len g7
            have hll := g8.length
            obtain ⟨⟨m, hm⟩, g10⟩ := g9
            have hal : arr.toList.length = l.length + m.length := by rw [← hm]; simp
            have hmul : i' * sz + sz ≤ rows.length * sz := by
              rw [← Nat.succ_mul]; exact Nat.mul_le_mul_right _ hlt
            obtain ⟨w', arr', hrun, hh, hl, hsize, k1, k2, k3, hkk⟩ := base hv g3 g4 (by simp at hal; omega)
            have hlike : Obj.like (.slc sz rows) (.slc sz (rows.set i' (putAt r j us))) := rfl
            have hgen : Obj.gen (.slc sz rows) = Obj.gen (.slc sz (rows.set i' (putAt r j us))) := by simp [Obj.gen]
            have hext := ext_put hx (pl := x.ρ id) (w' := w') ho hlike (Nat.le_of_eq hgen) (fun _ => rfl) k1 k2 k3 (by omega) (fun k _ hne => hkk k (fun e => hne (e ▸ g1)))
            have hvl : (a.eval q).cells.toList.length = us.length := by rw [hcl]
            have hsame : arr'.size = arr.size := by
              have := congrArg List.length hl
              simp at this hvl
              simp at hal
              omega
            refine ⟨_, x.put id (x.ρ id) (.slc sz (rows.set i' (putAt r j us))) w', none, hrun, hk.2, trivial, ?_, hext⟩
            refine wrel_put hx ho hlike (Nat.le_of_eq hgen) (fun _ => rfl) k1 k2 k3 (by omega) (fun k _ hne => hkk k (fun e => hne (e ▸ g1))) (fun b' hb' => .inl hb') ?_
            refine .inr ⟨b', arr', ty, fr, l.take (i' * sz + j) ++ (a.eval q).cells.toList ++ l.drop (i' * sz + j + (a.eval q).cells.toList.length), by simp [Cx.put, g1], g2, hh, by rw [hsame]; exact g4, by simp [Cx.put]; exact g5, by rw [hsame]; simp [Cx.put]; exact g6, ?_, ?_, ?_, ?_⟩
            · intro r' hr'
              rcases List.mem_or_eq_of_mem_set hr' with h | h
              · exact g7 r' h
              · rw [h, putAt_len (by omega)]; exact hrl
            · rw [flatten_set g7 hrow (by omega)]
              exact VsRel.mono hext _ _ (g8.putAt hc)
            · refine ⟨m, ?_⟩
              rw [hl, ← hm, List.take_append_of_le_length (by omega), List.drop_append_of_le_length (by omega)]
              simp
            · intro v hv
              simp only [List.mem_append] at hv
              rcases hv with (hv | hv) | hv
              · exact g10 v (List.mem_of_mem_take hv)
              · exact hone v hv
              · exact g10 v (List.mem_of_mem_drop hv)
    · exact hk.elim
end
end Go.Ab
