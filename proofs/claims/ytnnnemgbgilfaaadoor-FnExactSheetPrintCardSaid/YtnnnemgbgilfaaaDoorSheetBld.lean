/- What a strings.Builder does, told in this logic. Conditions: none. -/
import Derived.Test.YtnnnemgbgilfaaaDoorAb7
import Derived.Test.YtnnnemgbgilfaaaDoorProg
import Derived.KernelRfl
import Derived.WalkKit
import Derived.BigRegion
import Derived.Lib.Builder
import Derived.Lib.AppendStr
import Derived.Lib.UnsafeStr
import Derived.Lib.FrozenHead
import Derived.OwnWalk
import Derived.Laws.Externs
import Derived.Shelf.Abstract
set_option linter.unusedSimpArgs false
set_option linter.unusedVariables false
set_option linter.defProp false
namespace Go.Proofs.YtnnnemgbgilfaaaDoor.W
open Go Go.Ab Go.RowKit Go.Shelf
set_option maxHeartbeats 2000000
set_option maxRecDepth 100000
/-- A builder that is new: it keeps its own address. -/
theorem cc_fresh (b : Nat) (w : World) (h0 : w.cell? ⟨b, 0, none⟩ = some (.pointer none)) (hsh : w.shape? b = some (81, 2)) (hfz : w.frozen? ⟨b, 0, none⟩ = false) :
    Calls Tryd.prog 78 #[.pointer (some ⟨b, 0, none⟩)] w fun e w' => e = .returned (.tuple #[]) ∧ w' = w.setCell ⟨b, 0, none⟩ (.pointer (some ⟨b, 0, none⟩)) := by
  obtain ⟨j, hj, hjs⟩ := Option.map_eq_some_iff.1 (show (Tryd.prog.info? 81).map (·.size) = some 2 by kernel_rfl)
  go_enter Tryd.func78, Tryd.ntmps78
  go_wp2
  rw [Lib.run_to_unsafe w ⟨b, 0, none⟩ Tryd.underlying79 Tryd.underlying119 hj (by rw [hjs]; decide) hsh (Nat.zero_lt_succ 1)]
  simp only [Result.andThen]
  rw [Oper.upon_value]
  go_wp2
  rw [run_callFunc_extern Tryd.func94 (by kernel_rfl) (by kernel_rfl) (by kernel_rfl) (e := Extern.AbiNoEscape.same) (by kernel_rfl)]
  rw [Lib.run_noEscape]
  simp only [Result.andThen]
  rw [Oper.upon_value]
  go_wp2
  rw [Lib.run_from_unsafe w ⟨b, 0, none⟩ Tryd.underlying119 Tryd.underlying79 hj hsh (by kernel_rfl)]
  simp only [Result.andThen]
  rw [Oper.upon_value]
  go_wp2
  go_end0
  exact ⟨rfl, rfl⟩
theorem cc_used (b : Nat) (w : World) (h0 : w.cell? ⟨b, 0, none⟩ = some (.pointer (some ⟨b, 0, none⟩))) :
    Calls Tryd.prog 78 #[.pointer (some ⟨b, 0, none⟩)] w fun e w' => e = .returned (.tuple #[]) ∧ w' = w := by
  obtain ⟨j, hj, _⟩ := Option.map_eq_some_iff.1 (show (Tryd.prog.info? 81).map (·.size) = some 2 by kernel_rfl)
  go_enter Tryd.func78, Tryd.ntmps78
  go_wp2
  rw [Lib.run_neq_ptr_same w _ Tryd.underlying79 hj]
  go_wp2
  go_end0
  exact ⟨rfl, rfl⟩
/-- An append of a text, its run being known. -/
theorem wp_appS {P : Program} {ops : Array Oper} {rest : List Oper} {o : Oper} {a : Act} {w w' : World} {v' : Value} {Q : Exit → Act → World → Prop} (hgd : o.guard = none) (sl x : Operand) (t u : TypeId)
    (ho : o.op = .call { callee := .builtin .append, args := #[sl, x], argTypes := #[t, u] }) (v : Value) (hs : a.eval sl = v) (s : ByteArray) (hx : a.eval x = .string s)
    (hr : (Builtin.append_ #[t, u] o.type #[v, .string s]).run P w = .ok v' w') (h : wpList P ops Q rest (a.put o.dst v') w') : wpList P ops Q (o :: rest) a w := by
  refine wpList_plain hgd fun K hK => ?_
  unfold Oper.wp execOp
  simp only [ho, resolve, invoke, builtin, Sem.run_bind, Sem.run_pure, Result.andThen_ok, List.map_toArray, List.map_cons, List.map_nil, hs, hx, hr]
  exact hK _ _ h
/-- What is written. -/
theorem ws_calls (b : Nat) (p v v' : Value) (s : List UInt8) (w w1 w2 : World) (hb : w.heap[b]? = some (.cells #[p, v] 81 (0, 0))) (hp : (p = .pointer none ∧ w1 = w.setCell ⟨b, 0, none⟩ (.pointer (some ⟨b, 0, none⟩))) ∨ (p = .pointer (some ⟨b, 0, none⟩) ∧ w1 = w))
    (hv : ∃ a n c, v' = .slice a n c)
    (hr : (Builtin.append_ #[22, 9] 22 #[v, .string ⟨s.toArray⟩]).run Tryd.prog w1 = .ok v' w2) (hb2 : w2.heap[b]? = some (.cells #[.pointer (some ⟨b, 0, none⟩), v] 81 (0, 0))) :
    Calls Tryd.prog 52 #[.pointer (some ⟨b, 0, none⟩), .string ⟨s.toArray⟩] w fun e w' => e = .returned (.tuple #[.int .i64 s.length, .nilIface]) ∧ w' = w2.setCell ⟨b, 1, none⟩ v' := by
  have hcc : Calls Tryd.prog 78 #[.pointer (some ⟨b, 0, none⟩)] w fun e w' => e = .returned (.tuple #[]) ∧ w' = w1 := by
    rcases hp with ⟨h1, h2⟩ | ⟨h1, h2⟩ <;> rw [h2] <;> subst h1
    · exact cc_fresh b w (by rw [Lib.cell_of_heap hb]; rfl) (by simp [World.shape?, hb]) (Lib.frozen_of_heap hb 0)
    · exact cc_used b w (by rw [Lib.cell_of_heap hb]; rfl)
  have c1 : w1.cell? ⟨b, 1, none⟩ = some v := by
    rcases hp with ⟨h1, h2⟩ | ⟨h1, h2⟩ <;> rw [h2] <;> subst h1
    · rw [Lib.cell_of_heap (setCell_heap_eq hb)]; rfl
    · rw [Lib.cell_of_heap hb]; rfl
  obtain ⟨ao, n', cap, rfl⟩ := hv
  have d0 : w2.cell? ⟨b, 0, none⟩ = some (.pointer (some ⟨b, 0, none⟩)) := by rw [Lib.cell_of_heap hb2]; rfl
  have d1 : w2.cell? ⟨b, 1, none⟩ = some v := by rw [Lib.cell_of_heap hb2]; rfl
  have f1 : w2.frozen? ⟨b, 1, none⟩ = false := Lib.frozen_of_heap hb2 1
  have e240 : ∀ args w, (callFunc 78 args).run Tryd.prog w = .ok (.enter 78 args) w := enters_of Tryd.func78 (by kernel_rfl) rfl
  go_enter Tryd.func52, Tryd.ntmps52
  go_wp2_with (first | (go_at_fn 78; refine hcc.mono ?_; rintro e W1 ⟨rfl, rfl⟩) | (at_builtin; refine wp_appS rfl _ _ _ _ rfl _ rfl ⟨s.toArray⟩ rfl hr ?_))
  go_ret2
  exact ⟨rfl, rfl⟩
abbrev TB : TypeId := 81
theorem str_cells (s : List UInt8) : Lib.strCells ⟨s.toArray⟩ = s.map fun c => Value.int .u8 c.toNat := rfl
/-- The buffer with a text behind it. -/
theorem app_run {x : Cx} (hx : WRel x) {i : Nat} {bs s : List UInt8} (ho : x.σ[i]? = some (.buf 5 bs)) (hs : s ≠ []) (hlen : bs.length + s.length ≤ 140737488355328) :
    ∃ v' w' pl', (Builtin.append_ #[22, 9] 22 #[.slice ((x.ρ i).blk.map fun b => ⟨b, 0, none⟩) bs.length (x.ρ i).cap, .string ⟨s.toArray⟩]).run Tryd.prog x.w = .ok v' w' ∧
      WRel (x.put i pl' (.buf 5 (bs ++ s)) w') ∧ Ext x (x.put i pl' (.buf 5 (bs ++ s)) w') ∧ v' = .slice (pl'.blk.map fun b => ⟨b, 0, none⟩) (bs.length + s.length) pl'.cap ∧ (∀ k, k < x.w.heap.size → (x.ρ i).blk ≠ some k → w'.heap[k]? = x.w.heap[k]?) := by
  obtain ⟨i0, hi, hz, hsz, hby⟩ := info_parts (show (Tryd.prog.info? 5).map (fun i => (i.zero, i.size, i.bytes)) = some (some (.int .u8 0), 1, 1) by kernel_rfl)
  have ht : Tryd.prog.underlying 22 = some (.slice 5) := by kernel_rfl
  have hu : Tryd.prog.underlying 9 = some .string := by kernel_rfl
  have hpos := List.length_pos_iff.2 hs
  have hlike : Ab.Obj.like (.buf 5 bs) (.buf 5 (bs ++ s)) := rfl
  have hgen : Ab.Obj.gen (.buf 5 bs) ≤ Ab.Obj.gen (.buf 5 (bs ++ s)) := by simp [Ab.Obj.gen]
  have hgn : ∀ {α : Prop}, Ab.Obj.gen (.buf 5 bs) = Ab.Obj.gen (.buf 5 (bs ++ s)) → α := fun e => by simp [Ab.Obj.gen] at e; exact (hs e).elim
  have hssz : (⟨s.toArray⟩ : ByteArray).size = s.length := by simp [ByteArray.size]
  have hcl : (Lib.strCells ⟨s.toArray⟩).length = s.length := by rw [Lib.strCells_length, hssz]
  have hmap : (bs ++ s).map (fun c => Value.int .u8 c.toNat) = bs.map (fun c => Value.int .u8 c.toNat) ++ Lib.strCells ⟨s.toArray⟩ := by rw [List.map_append, str_cells]
  have hml : bs.length + s.length ≤ maxLen := by unfold maxLen; omega
  have hz1 : (Value.int IntKind.u8 0).cells.size = 1 := rfl
  -- a new block
  have grown : ∀ (old : Nat), old < bs.length + s.length → ∀ (olds : List Value), olds = bs.map (fun c => Value.int .u8 c.toNat) →
      (Builtin.append_ #[22, 9] 22 #[.slice ((x.ρ i).blk.map fun b => ⟨b, 0, none⟩) bs.length (x.ρ i).cap, .string ⟨s.toArray⟩]).run Tryd.prog x.w =
        .ok (.slice (some ⟨x.w.heap.size, 0, none⟩) (bs.length + s.length) (grownCap x.w (bs.length + s.length) old 5)) (x.w.drew.alloc (.cells (olds.toArray ++ (Lib.strCells ⟨s.toArray⟩).toArray ++ Builtin.zeroCells (Value.int .u8 0).cells (grownCap x.w (bs.length + s.length) old 5 - (bs.length + s.length))) 5)) →
      ∃ v' w' pl', (Builtin.append_ #[22, 9] 22 #[.slice ((x.ρ i).blk.map fun b => ⟨b, 0, none⟩) bs.length (x.ρ i).cap, .string ⟨s.toArray⟩]).run Tryd.prog x.w = .ok v' w' ∧
      WRel (x.put i pl' (.buf 5 (bs ++ s)) w') ∧ Ext x (x.put i pl' (.buf 5 (bs ++ s)) w') ∧ v' = .slice (pl'.blk.map fun b => ⟨b, 0, none⟩) (bs.length + s.length) pl'.cap ∧ (∀ k, k < x.w.heap.size → (x.ρ i).blk ≠ some k → w'.heap[k]? = x.w.heap[k]?) := by
    intro old hold olds holds hrun
    have hge := grownCap_ge x.w (bs.length + s.length) old 5
    have hcm := grownCap_le_maxLen x.w (bs.length + s.length) old 5 hml
    generalize hcap : grownCap x.w (bs.length + s.length) old 5 = cap at *
    generalize harr : olds.toArray ++ (Lib.strCells ⟨s.toArray⟩).toArray ++ Builtin.zeroCells (Value.int .u8 0).cells (cap - (bs.length + s.length)) = arr at *
    have hkeep : ∀ k, k < x.w.heap.size → (x.ρ i).blk ≠ some k → (x.w.drew.alloc (.cells arr 5)).heap[k]? = x.w.heap[k]? := fun k hk _ => heap_alloc_lt x.w.drew _ hk
    have hsize : x.w.heap.size ≤ (x.w.drew.alloc (.cells arr 5)).heap.size := by rw [World.size_alloc]; exact Nat.le_succ _
    have hasz : arr.size = cap := by
      rw [← harr]
      simp only [Array.size_append, List.size_toArray, size_zeroCells, hz1, hcl, holds, List.length_map]
      omega
    refine ⟨_, _, ⟨some x.w.heap.size, cap⟩, hrun, ?_, ?_, rfl, hkeep⟩
    · refine wrel_put hx ho hlike hgen (fun e => hgn e) rfl rfl rfl hsize hkeep (fun b hb => .inr (by simp at hb; omega)) (.inr ⟨x.w.heap.size, arr, (0, 0), by simp [Cx.put], fun hF => by have := hx.low _ hF; omega, heap_alloc_new x.w.drew _, by simp [hs], Nat.zero_le _, by simpa [Cx.put] using hge, by simpa [Cx.put] using hcm, by simpa [Cx.put] using hasz, ?_⟩)
      rw [← harr, hmap, ← holds]
      simp only [Array.toList_append, List.append_assoc]
      rw [← List.append_assoc]
      have : (bs ++ s).length = (olds ++ Lib.strCells ⟨s.toArray⟩).length := by rw [holds]; simp [hcl]
      rw [this]
      exact List.take_left
    · exact ext_put hx ho hlike hgen (fun e => hgn e) rfl rfl rfl hsize hkeep
  rcases hx.objs i _ ho with ⟨h1, h2⟩ | ⟨g, arr, fz, g1, g2, g3, g4, g5, g6, g7, g8, g9⟩
  · subst h1
    have hr := run_append_nil_string (P := Tryd.prog) x.w 22 9 22 5 i0 (.int .u8 0) ht hu hi hz ⟨s.toArray⟩ (by omega) (by omega) (by rw [hby]; omega)
    have hcs : ((⟨s.toArray⟩ : ByteArray).data.map fun b => Value.int .u8 b.toNat) = (Lib.strCells ⟨s.toArray⟩).toArray := by apply Array.ext'; simp [Lib.strCells]
    rw [hssz, hcs] at hr
    refine grown 0 (by simp; exact hpos) [] rfl ?_
    rw [h2]
    simp only [Option.map_none, List.length_nil, Nat.zero_add] at hr ⊢
    rw [hr]
    simp
  · rw [g1]
    simp only [Option.map_some]
    by_cases hroom : bs.length + s.length ≤ (x.ρ i).cap
    · have hr := Lib.run_append_room_stringF (P := Tryd.prog) x.w 22 9 22 5 i0 ht hu hi hsz g bs.length (x.ρ i).cap arr fz g3 g5 ⟨s.toArray⟩ (by rw [hssz]; exact hroom) (by rw [hssz]; omega)
      rw [hssz] at hr
      have hkeep : ∀ k, k < x.w.heap.size → (x.ρ i).blk ≠ some k → (x.w.setRow g (arr.toList.take bs.length ++ Lib.strCells ⟨s.toArray⟩ ++ arr.toList.drop (bs.length + s.length)).toArray).heap[k]? = x.w.heap[k]? := fun k _ hk => setRow_other x.w g k _ (fun e => hk (by rw [g1, e]))
      refine ⟨_, _, x.ρ i, hr, ?_, ?_, by rw [g1]; rfl, fun k hk hne => hkeep k hk (by rw [g1]; exact hne)⟩
      · refine wrel_put hx ho hlike hgen (fun e => hgn e) rfl rfl rfl (by simp) hkeep (fun b hb => .inl hb) (.inr ⟨g, _, fz, by simp [Cx.put, g1], g2, setRow_heap x.w g arr _ 5 _ g3, by simp [hs], by rw [List.length_append]; omega, by simpa [Cx.put] using hroom, by simpa [Cx.put] using g7, ?_, ?_⟩)
        · simp only [List.size_toArray, List.length_append, List.length_take, List.length_drop, Array.length_toList, hcl, Cx.put, upd_same]
          omega
        · rw [hmap, ← g9, List.length_append]
          have e1 : (arr.toList.take bs.length).length = bs.length := by rw [g9, List.length_map]
          have e2 : bs.length + s.length = (arr.toList.take bs.length ++ Lib.strCells ⟨s.toArray⟩).length := by rw [List.length_append, e1, hcl]
          rw [show (List.toArray (arr.toList.take bs.length ++ Lib.strCells ⟨s.toArray⟩ ++ arr.toList.drop (bs.length + s.length))).toList = arr.toList.take bs.length ++ Lib.strCells ⟨s.toArray⟩ ++ arr.toList.drop (bs.length + s.length) from rfl]
          conv => lhs; rw [e2]
          exact List.take_left
      · exact ext_put hx ho hlike hgen (fun e => hgn e) rfl rfl rfl (by simp) hkeep
    · have holds : ∀ j u, (bs.map fun c => Value.int .u8 c.toNat)[j]? = some u → x.w.cell? ((⟨g, 0, none⟩ : Addr).add j) = some u := by
        intro j u hj
        rw [addr_add, Nat.zero_add]
        rw [← g9, List.getElem?_take] at hj
        split at hj
        · simp only [World.cell?, g3]
          simpa using hj
        · cases hj
      have hr := Lib.run_append_grow_string (P := Tryd.prog) x.w 22 9 22 5 i0 (.int .u8 0) ht hu hi hz ⟨g, 0, none⟩ bs.length (x.ρ i).cap (bs.map fun c => Value.int .u8 c.toNat) (by rw [hsz]; simp) holds ⟨s.toArray⟩ (by rw [hssz]; omega) (by rw [hssz]; omega) (by rw [hby, hssz]; exact growslice_fits (by omega) (by omega))
      rw [hssz] at hr
      have := grown (x.ρ i).cap (by omega) _ rfl (by rw [g1]; exact hr)
      rw [g1] at this
      exact this

/-- A text is written into one's own builder. -/
theorem strings_Write {σ : Store} {id i : Nat} {bs s : List UInt8} {p : V} (h1 : σ[id]? = some (.tbox TB [p, .bsl i bs.length])) (h2 : σ[i]? = some (.buf 5 bs)) (hp : p = .nilp ∨ p = .bp id) (hs : s ≠ []) (hlen : bs.length + s.length ≤ 140737488355328) :
    ACalls Tryd.prog 52 [.bp id, .t (.str s)] σ fun rr σ' => rr = .tup [.t (.int .i64 (s.length : Nat)), .nili] ∧ σ' = (σ.set i (.buf 5 (bs ++ s))).set id (.tbox TB [.bp id, .bsl i (bs.length + s.length)]) := by
  refine ⟨⟨_, Tryd.func52, by decide +kernel, by decide +kernel⟩, ?_⟩
  rintro x cargs rfl hx ha
  have hne : i ≠ id := by rintro rfl; rw [h1] at h2; cases h2
  simp only [VsRel, VRel, TRel] at ha
  obtain ⟨c, cs, rfl, ⟨t', cs', b, e1, e2, rfl⟩, c2, cs2, rfl, rfl, rfl⟩ := ha
  obtain ⟨b', arr, f1, f2, f3, f4⟩ := hx.objs id _ h1
  rw [e2] at f1; obtain rfl := Option.some.inj f1
  simp only [VsRel] at f4
  obtain ⟨pv, l1, e3, hpv, v, l2, rfl, hv, rfl⟩ := f4
  obtain rfl : arr = #[pv, v] := Array.ext' e3
  have hv' : v = .slice ((x.ρ i).blk.map fun b => ⟨b, 0, none⟩) bs.length (x.ρ i).cap := by
    simp only [VRel] at hv
    obtain ⟨et, bs', k1, k2, _, k3⟩ := hv
    rw [h2] at k1
    obtain ⟨rfl, rfl⟩ : 5 = et ∧ bs = bs' := by simpa using k1
    exact k3 rfl
  have hbi : (x.ρ i).blk ≠ some b := fun e => hx.inj i id b hne (List.getElem?_eq_some_iff.1 h2).1 (List.getElem?_eq_some_iff.1 h1).1 e e2
  have hblt : b < x.w.heap.size := (Array.getElem?_eq_some_iff.1 f3).1
  -- copyCheck
  obtain ⟨w1, hp1, q1, q2, q3, q4, q5, q6⟩ : ∃ w1, ((pv = .pointer none ∧ w1 = x.w.setCell ⟨b, 0, none⟩ (.pointer (some ⟨b, 0, none⟩))) ∨ (pv = .pointer (some ⟨b, 0, none⟩) ∧ w1 = x.w)) ∧
      w1.heap[b]? = some (.cells #[.pointer (some ⟨b, 0, none⟩), v] TB (0, 0)) ∧ w1.os = x.w.os ∧ w1.tape = x.w.tape ∧ w1.output = x.w.output ∧ w1.heap.size = x.w.heap.size ∧ ∀ k, k ≠ b → w1.heap[k]? = x.w.heap[k]? := by
    rcases hp with rfl | rfl
    · simp only [VRel] at hpv
      subst hpv
      exact ⟨_, .inl ⟨rfl, rfl⟩, setCell_heap_eq f3, rfl, rfl, rfl, by simp [World.setCell], fun k hk => setCell_heap_ne _ _ _ _ _ hk⟩
    · simp only [VRel] at hpv
      obtain ⟨_, _, b2, _, k2, rfl⟩ := hpv
      rw [e2] at k2; obtain rfl := Option.some.inj k2
      exact ⟨_, .inr ⟨rfl, rfl⟩, f3, rfl, rfl, rfl, rfl, fun _ _ => rfl⟩
  have hk1 : ∀ k, k < x.w.heap.size → (x.ρ id).blk ≠ some k → w1.heap[k]? = x.w.heap[k]? := fun k _ hk => q6 k (fun e => hk (by rw [e2, e]))
  have hl1 : ∀ n, Ab.Obj.like (.tbox TB [p, .bsl i bs.length]) (.tbox TB [.bp id, .bsl i n]) := fun _ => rfl
  have X1 := ext_put hx (ob := .tbox TB [.bp id, .bsl i bs.length]) (pl := x.ρ id) h1 (hl1 _) (Nat.le_refl _) (fun _ => rfl) q2 q3 q4 (by omega) hk1
  have hid := (List.getElem?_eq_some_iff.1 h1).1
  have W1 := wrel_put hx (ob := .tbox TB [.bp id, .bsl i bs.length]) (pl := x.ρ id) h1 (hl1 _) (Nat.le_refl _) (fun _ => rfl) q2 q3 q4 (by omega) hk1 (fun _ h => .inl h) ⟨b, _, by simp [Cx.put, e2], f2, q1, by
    simp only [VsRel, VRel]
    refine ⟨_, _, rfl, ⟨TB, [.bp id, .bsl i bs.length], b, by simp [Cx.put, hid], by simp [Cx.put, e2], rfl⟩, _, _, rfl, ⟨5, bs, by simp [Cx.put, List.getElem?_set_ne (Ne.symm hne), h2], Nat.le_refl _, ⟨_, _, hv'⟩, fun _ => ?_⟩, rfl⟩
    rw [hv']; simp [Cx.put, upd_other _ _ _ hne]⟩
  obtain ⟨y1, hy1⟩ : ∃ y1, y1 = x.put id (x.ρ id) (.tbox TB [.bp id, .bsl i bs.length]) w1 := ⟨_, rfl⟩
  rw [← hy1] at X1 W1
  have y1σ : y1.σ = x.σ.set id (.tbox TB [.bp id, .bsl i bs.length]) := by rw [hy1]; rfl
  have y1w : y1.w = w1 := by rw [hy1]; rfl
  have y1F : y1.F = x.F := by rw [hy1]; rfl
  have y1i : y1.ρ i = x.ρ i := by rw [hy1]; exact upd_other _ _ _ hne
  have y1d : y1.ρ id = x.ρ id := by rw [hy1]; simp [Cx.put]
  -- append
  have ho : y1.σ[i]? = some (.buf 5 bs) := by rw [y1σ, List.getElem?_set_ne (Ne.symm hne)]; exact h2
  obtain ⟨v', w2, pl', hrun, W2, X2, rfl, hk2⟩ := app_run W1 ho hs hlen
  rw [y1i, y1w] at hk2
  rw [y1i, y1w, ← hv'] at hrun
  have q7 : w2.heap[b]? = some (.cells #[.pointer (some ⟨b, 0, none⟩), v] TB (0, 0)) := by rw [hk2 b (by omega) hbi]; exact q1
  refine (ws_calls b pv v _ s x.w w1 w2 f3 hp1 ⟨_, _, _, rfl⟩ hrun q7).mono ?_
  rintro e w' ⟨rfl, rfl⟩
  obtain ⟨y2, hy2⟩ : ∃ y2, y2 = y1.put i pl' (.buf 5 (bs ++ s)) w2 := ⟨_, rfl⟩
  rw [← hy2] at W2 X2
  have y2σ : y2.σ = (x.σ.set id (.tbox TB [.bp id, .bsl i bs.length])).set i (.buf 5 (bs ++ s)) := by rw [hy2, ← y1σ]; rfl
  have y2w : y2.w = w2 := by rw [hy2]; rfl
  have y2i : y2.ρ i = pl' := by rw [hy2]; simp [Cx.put]
  have y2d : y2.ρ id = x.ρ id := by rw [hy2, ← y1d]; exact upd_other _ _ _ (Ne.symm hne)
  have y2F : y2.F = x.F := by rw [hy2, ← y1F]; rfl
  have hid2 : y2.σ[id]? = some (.tbox TB [.bp id, .bsl i bs.length]) := by rw [y2σ, List.getElem?_set_ne hne, List.getElem?_set_self hid]
  have hi2 : y2.σ[i]? = some (.buf 5 (bs ++ s)) := by rw [y2σ]; exact List.getElem?_set_self (by rw [List.length_set]; exact (List.getElem?_eq_some_iff.1 h2).1)
  have hl3 : Ab.Obj.like (.tbox TB [.bp id, .bsl i bs.length]) (.tbox TB [.bp id, .bsl i (bs.length + s.length)]) := rfl
  have hk3 : ∀ k, k < y2.w.heap.size → (y2.ρ id).blk ≠ some k → (w2.setCell ⟨b, 1, none⟩ (.slice (pl'.blk.map fun b => ⟨b, 0, none⟩) (bs.length + s.length) pl'.cap)).heap[k]? = y2.w.heap[k]? := fun k _ hk => by
    rw [y2w]; exact setCell_heap_ne _ _ _ _ _ (fun e => hk (by rw [y2d, e2, e]))
  have hs3 : y2.w.heap.size ≤ (w2.setCell ⟨b, 1, none⟩ (.slice (pl'.blk.map fun b => ⟨b, 0, none⟩) (bs.length + s.length) pl'.cap)).heap.size := by rw [y2w]; simp [World.setCell]
  have hid3 := (List.getElem?_eq_some_iff.1 hid2).1
  have X3 := ext_put W2 (ob := .tbox TB [.bp id, .bsl i (bs.length + s.length)]) (pl := y2.ρ id) hid2 hl3 (Nat.le_refl _) (fun _ => rfl) (by rw [y2w]; rfl) (by rw [y2w]; rfl) (by rw [y2w]; rfl) hs3 hk3
  have W3 := wrel_put W2 (ob := .tbox TB [.bp id, .bsl i (bs.length + s.length)]) (pl := y2.ρ id) hid2 hl3 (Nat.le_refl _) (fun _ => rfl) (by rw [y2w]; rfl) (by rw [y2w]; rfl) (by rw [y2w]; rfl) hs3 hk3 (fun _ h => .inl h) ⟨b, _, by simp [Cx.put, y2d, e2], by show ¬ y2.F b; rw [y2F]; exact f2, setCell_heap_eq q7, by
    simp only [VsRel, VRel]
    refine ⟨_, _, rfl, ⟨TB, [.bp id, .bsl i (bs.length + s.length)], b, by simp [Cx.put, hid3], by simp [Cx.put, y2d, e2], rfl⟩, _, _, rfl, ⟨5, bs ++ s, by simp [Cx.put, List.getElem?_set_ne (Ne.symm hne), hi2], by simp, ⟨_, _, rfl⟩, fun _ => ?_⟩, rfl⟩
    simp [Cx.put, upd_other _ _ _ hne, y2i]⟩
  refine ⟨_, _, .tup [.t (.int .i64 (s.length : Nat)), .nili], rfl, rfl, ⟨rfl, ?_⟩, ?_, W3, (X1.trans X2).trans X3⟩
  · simp only [Cx.put, y2σ]
    rw [List.set_comm _ _ (Ne.symm hne), List.set_set]
  · simp only [VRel, VsRel, TRel]
    exact ⟨_, rfl, _, _, rfl, rfl, _, _, rfl, rfl, rfl⟩

theorem bs_none (b : Nat) (p : Value) (w : World) (hb : w.heap[b]? = some (.cells #[p, .slice none 0 0] TB (0, 0))) :
    Calls Tryd.prog 55 #[.pointer (some ⟨b, 0, none⟩)] w fun e w' => e = .returned (.string ⟨#[]⟩) ∧ w' = w.drew := by
  have c1 : w.drew.cell? ⟨b, 1, none⟩ = some (.slice none 0 0) := by
    have : w.drew.heap[b]? = some (.cells #[p, .slice none 0 0] TB (0, 0)) := hb
    rw [Lib.cell_of_heap this]; rfl
  have hSD : (Builtin.unsafeSliceData_ #[22] 108 #[.slice none 0 0]).run Tryd.prog w.drew = .ok (.pointer none) w.drew := Lib.run_unsafeSliceData_nil _ _ _ _ _
  have hUS : (Builtin.unsafeString_ #[108, 3] 9 #[.pointer none, .int .i64 0]).run Tryd.prog w.drew = .ok (.string ⟨#[]⟩) w.drew := Lib.run_unsafeString_none _ _ _ _ _
  go_enter Tryd.func55, Tryd.ntmps55
  go_wp2
  go_region
  all_goals (go_wp2; go_ret; exact ⟨rfl, rfl⟩)
theorem bs_some (b g cap : Nat) (p : Value) (l : List UInt8) (cur : Array Value) (fz : Nat × Nat) (w : World) (hb : w.heap[b]? = some (.cells #[p, .slice (some ⟨g, 0, none⟩) l.length cap] TB (0, 0))) (hg : w.heap[g]? = some (.cells cur 5 fz)) (h0 : l ≠ []) (hc : l.length ≤ cap) (hm : cap ≤ maxLen) (hcs : cur.size = cap)
    (htake : cur.toList.take l.length = l.map fun c => Value.int .u8 c.toNat) :
    Calls Tryd.prog 55 #[.pointer (some ⟨b, 0, none⟩)] w fun e w' => e = .returned (.string ⟨l.toArray⟩) ∧ w' = w.drew.freeze ⟨g, 0, none⟩ l.length := by
  have hl0 : l.length ≠ 0 := by simpa using h0
  have c1 : w.drew.cell? ⟨b, 1, none⟩ = some (.slice (some ⟨g, 0, none⟩) l.length cap) := by
    have : w.drew.heap[b]? = some (.cells #[p, .slice (some ⟨g, 0, none⟩) l.length cap] TB (0, 0)) := hb
    rw [Lib.cell_of_heap this]; rfl
  have hSD : (Builtin.unsafeSliceData_ #[22] 108 #[.slice (some ⟨g, 0, none⟩) l.length cap]).run Tryd.prog w.drew = .ok (.pointer (some ⟨g, 0, none⟩)) w.drew := Lib.run_unsafeSliceData_row _ _ _ _ _ _ (by omega)
  have hUS : (Builtin.unsafeString_ #[108, 3] 9 #[.pointer (some ⟨g, 0, none⟩), .int .i64 l.length]).run Tryd.prog w.drew = .ok (.string ⟨l.toArray⟩) (w.drew.freeze ⟨g, 0, none⟩ l.length) := by
    refine Lib.run_unsafeString_row w.drew 108 3 9 5 (by kernel_rfl) (by kernel_rfl) g cur.size (by have hg' : w.drew.heap[g]? = some (.cells cur 5 fz) := hg; simp [World.shape?, hg']) l h0 (by omega) (by unfold maxLen at hm; omega) ?_
    intro j x hj
    have hg' : w.drew.heap[g]? = some (.cells cur 5 fz) := hg
    rw [addr_add, Nat.zero_add]
    have h2 : (l.map fun c => Value.int .u8 c.toNat)[j]? = some (.int .u8 x.toNat) := by simp [hj]
    rw [← htake, List.getElem?_take] at h2
    split at h2
    · simp only [World.cell?, hg']
      simpa using h2
    · cases h2
  go_enter Tryd.func55, Tryd.ntmps55
  go_wp2
  go_region
  all_goals (go_wp2; go_ret; exact ⟨rfl, rfl⟩)
/-- What one's own builder holds. -/
theorem strings_Str {σ : Store} {id i : Nat} {bs : List UInt8} {p : V} (h1 : σ[id]? = some (.tbox TB [p, .bsl i bs.length])) (h2 : σ[i]? = some (.buf 5 bs)) :
    ACalls Tryd.prog 55 [.bp id] σ fun rr σ' => rr = .t (.str bs) ∧ σ' = σ := by
  refine ⟨⟨_, Tryd.func55, by decide +kernel, by decide +kernel⟩, ?_⟩
  rintro x cargs rfl hx ha
  have hne : i ≠ id := by rintro rfl; rw [h1] at h2; cases h2
  simp only [VsRel, VRel, TRel] at ha
  obtain ⟨c, cs, rfl, ⟨t', cs', b, e1, e2, rfl⟩, rfl⟩ := ha
  obtain ⟨b', arr, f1, f2, f3, f4⟩ := hx.objs id _ h1
  rw [e2] at f1; obtain rfl := Option.some.inj f1
  simp only [VsRel] at f4
  obtain ⟨pv, l1, e3, hpv, v, l2, rfl, hv, rfl⟩ := f4
  obtain rfl : arr = #[pv, v] := Array.ext' e3
  have hv' : v = .slice ((x.ρ i).blk.map fun b => ⟨b, 0, none⟩) bs.length (x.ρ i).cap := by
    simp only [VRel] at hv
    obtain ⟨et, bs', k1, k2, _, k3⟩ := hv
    rw [h2] at k1
    obtain ⟨rfl, rfl⟩ : 5 = et ∧ bs = bs' := by simpa using k1
    exact k3 rfl
  subst hv'
  rcases hx.objs i _ h2 with ⟨k1, k2⟩ | ⟨g, arr, fz, g1, g2, g3, g4, g5, g6, g7, g8, g9⟩
  · subst k1
    rw [k2] at f3
    refine (bs_none b pv x.w f3).mono ?_
    rintro e w' ⟨rfl, rfl⟩
    exact ⟨_, { x with w := x.w.drew }, _, rfl, rfl, ⟨rfl, rfl⟩, by simp only [VRel, TRel], wrel_drew hx, ext_drew x⟩
  · rw [g1] at f3
    refine (bs_some b g (x.ρ i).cap pv bs arr fz x.w f3 g3 g4 g6 g7 g8 g9).mono ?_
    rintro e w' ⟨rfl, rfl⟩
    have hgl : g < x.w.heap.size := (Array.getElem?_eq_some_iff.1 g3).1
    have hoth : ∀ k, k ≠ g → (x.w.drew.freeze ⟨g, 0, none⟩ bs.length).heap[k]? = x.w.heap[k]? := fun k hk => by
      unfold World.freeze
      split
      · rfl
      · show (x.w.heap.modify g _)[k]? = _
        rw [Array.getElem?_modify, if_neg (fun e => hk e.symm)]
    obtain ⟨fz', hg', hfz'⟩ : ∃ fz', (x.w.drew.freeze ⟨g, 0, none⟩ bs.length).heap[g]? = some (.cells arr 5 fz') ∧ fz'.2 ≤ bs.length := by
      unfold World.freeze
      rw [if_neg (by simpa using g4)]
      obtain ⟨lo, hi⟩ := fz
      refine ⟨_, by show (x.w.heap.modify g _)[g]? = _; rw [Array.getElem?_modify, if_pos rfl, g3]; rfl, ?_⟩
      simp only at g5 ⊢
      split
      · simp
      · simp only [Nat.zero_add]; omega
    have hsz : (x.w.drew.freeze ⟨g, 0, none⟩ bs.length).heap.size = x.w.heap.size := by
      unfold World.freeze
      split
      · rfl
      · show (x.w.heap.modify g _).size = _; simp
    have hq : (x.w.drew.freeze ⟨g, 0, none⟩ bs.length).os = x.w.os ∧ (x.w.drew.freeze ⟨g, 0, none⟩ bs.length).tape = x.w.tape ∧ (x.w.drew.freeze ⟨g, 0, none⟩ bs.length).output = x.w.output := by
      unfold World.freeze
      split <;> exact ⟨rfl, rfl, rfl⟩
    have hk : ∀ k, k < x.w.heap.size → (x.ρ i).blk ≠ some k → (x.w.drew.freeze ⟨g, 0, none⟩ bs.length).heap[k]? = x.w.heap[k]? := fun k _ hk => hoth k (fun e => hk (by rw [g1, e]))
    have X := ext_put hx (ob := .buf 5 bs) (pl := x.ρ i) h2 (Ab.Obj.like_refl _) (Nat.le_refl _) (fun _ => rfl) hq.1 hq.2.1 hq.2.2 (by omega) hk
    have W := wrel_put hx (ob := .buf 5 bs) (pl := x.ρ i) h2 (Ab.Obj.like_refl _) (Nat.le_refl _) (fun _ => rfl) hq.1 hq.2.1 hq.2.2 (by omega) hk (fun _ h => .inl h) (.inr ⟨g, arr, fz', by simp [Cx.put, g1], g2, hg', g4, hfz', by simpa [Cx.put] using g6, by simpa [Cx.put] using g7, by simpa [Cx.put] using g8, g9⟩)
    refine ⟨_, _, .t (.str bs), rfl, rfl, ⟨rfl, ?_⟩, by simp only [VRel, TRel], W, X⟩
    have := (List.getElem?_eq_some_iff.1 h2).2
    show x.σ.set i (.buf 5 bs) = x.σ
    rw [← this]
    exact List.set_getElem_self _
end Go.Proofs.YtnnnemgbgilfaaaDoor.W
