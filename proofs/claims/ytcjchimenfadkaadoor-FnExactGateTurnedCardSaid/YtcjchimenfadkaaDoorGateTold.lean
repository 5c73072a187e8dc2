/- errors.As at a fault, told of the model's worlds (after the guide's worked proof of errors.As). Conditions: none. -/
/- errors.As at a fault, told in this logic. Conditions: none. -/
/- What is wrong with an object: the program. Conditions: none. -/
import Derived.Test.YtcjchimenfadkaaDoorProg
import Derived.WalkKit
import Derived.LaidEql
import Derived.Stop.Asserts
import Derived.RowKitTokens
import Derived.Test.YtcjchimenfadkaaDoorAb7
set_option linter.unusedSimpArgs false
set_option linter.unusedVariables false
set_option linter.defProp false

section
namespace Go.Proofs.YtcjchimenfadkaaDoor.W
open Go Go.RowKit Go.Extern.Stop Go.Stop Go.Extern

theorem as_valueOf27 (t : Addr) (w : World) : (ReflectliteValue.unpack (.iface 137 (.pointer (some t)))).run Tryd.prog w
    = .ok (.agg #[.pointer (some ⟨4, 137, none⟩), .pointer (some ⟨w.heap.size, 0, none⟩), .int .u64 150]) (w.alloc (.cells #[.pointer (some t)] 137)) := by kernel_rfl
theorem as_type27 (a : Addr) (w : World) : (ReflectliteValue.methodAny (ReflectliteValue.valueError "reflectlite.Value.Type" 0) (fun t _ _ _ => ReflectliteType.toType t) #[.agg #[.pointer (some ⟨4, 137, none⟩), .pointer (some a), .int .u64 150]]).run Tryd.prog w
    = .ok (.iface 194 (.agg #[.pointer (some ⟨4, 137, none⟩)])) w := by kernel_rfl
theorem as_methodKind (h : Value) (w : World) : (Go.method 360 194 (.agg #[h]) "Kind").run Tryd.prog w = .ok (161, h) w := by kernel_rfl
theorem as_kind27 (w : World) : ((ReflectliteType.abiMethod fun t => (fun a : Nat => Value.int IntKind.u8 (a : Int)) <$> Rtype.kind t) #[.pointer (some ⟨4, 137, none⟩)]).run Tryd.prog w = .ok (.int .u8 22) w := by kernel_rfl
theorem as_kind25 (w : World) : ((ReflectliteType.abiMethod fun t => (fun a : Nat => Value.int IntKind.u8 (a : Int)) <$> Rtype.kind t) #[.pointer (some ⟨4, 133, none⟩)]).run Tryd.prog w = .ok (.int .u8 22) w := by kernel_rfl

theorem as_rlm (z : Sem Value) (f : TypeId → Addr → Nat → Nat → Sem Value) (v : Value) :
    ReflectliteValue.method z f #[v] = (do match ← ReflectliteValue.parts v with | none => z | some (t, a, fl) => f t a fl (fl % 32)) := rfl
theorem as_parts27 (a : Addr) (w : World) : (ReflectliteValue.parts (.agg #[.pointer (some ⟨4, 137, none⟩), .pointer (some a), .int .u64 150])).run Tryd.prog w = .ok (some (137, a, 150)) w := by kernel_rfl
theorem as_isNil27 (a p : Addr) (W : World) (ha : W.cell? a = some (.pointer (some p))) :
    (ReflectliteValue.method (ReflectliteValue.valueError "reflectlite.Value.IsNil" 0) ReflectliteValue.isNil #[.agg #[.pointer (some ⟨4, 137, none⟩), .pointer (some a), .int .u64 150]]).run Tryd.prog W = .ok (.bool false) W := by
  rw [as_rlm]
  simp only [Sem.run_bind, as_parts27, Result.andThen]
  simp [ReflectliteValue.isNil, loadVar, isAgg, underlying, Tryd.underlying137, ha, Result.andThen]

theorem as_methodElem (h : Value) (w : World) : (Go.method 360 194 (.agg #[h]) "Elem").run Tryd.prog w = .ok (185, .agg #[h]) w := by kernel_rfl
theorem as_methodImplements (h : Value) (w : World) : (Go.method 360 194 (.agg #[h]) "Implements").run Tryd.prog w = .ok (186, .agg #[h]) w := by kernel_rfl
theorem as_methodAssignableTo (h : Value) (w : World) : (Go.method 360 194 (.agg #[h]) "AssignableTo").run Tryd.prog w = .ok (183, .agg #[h]) w := by kernel_rfl
theorem as_elem27 (w : World) : (ReflectliteType.method ReflectliteType.elem #[.agg #[.pointer (some ⟨4, 137, none⟩)]]).run Tryd.prog w = .ok (.iface 194 (.agg #[.pointer (some ⟨4, 133, none⟩)])) w := by kernel_rfl
theorem as_implements25 (w : World) : (ReflectliteType.relation "Implements" ReflectliteType.implements_ #[.agg #[.pointer (some ⟨4, 133, none⟩)], .iface 194 (.agg #[.pointer (some ⟨4, 99, none⟩)])]).run Tryd.prog w = .ok (.bool true) w := by kernel_rfl
theorem as_typeOf25 (v : Value) (w : World) : (ReflectliteType.typeOf #[.iface 133 v]).run Tryd.prog w = .ok (.iface 194 (.agg #[.pointer (some ⟨4, 133, none⟩)])) w := by kernel_rfl
theorem as_assignable25 (w : World) : (ReflectliteType.relation "AssignableTo" ReflectliteType.assignableTo #[.agg #[.pointer (some ⟨4, 133, none⟩)], .iface 194 (.agg #[.pointer (some ⟨4, 133, none⟩)])]).run Tryd.prog w = .ok (.bool true) w := by kernel_rfl
theorem as_valueOf25 (e : Addr) (w : World) : (ReflectliteValue.unpack (.iface 133 (.pointer (some e)))).run Tryd.prog w
    = .ok (.agg #[.pointer (some ⟨4, 133, none⟩), .pointer (some ⟨w.heap.size, 0, none⟩), .int .u64 150]) (w.alloc (.cells #[.pointer (some e)] 133)) := by kernel_rfl

theorem as_elemOf27 (w : World) : (Rtype.elem? 137).run Tryd.prog w = .ok (some 133) w := by kernel_rfl
theorem as_mk25 (p : Addr) (w : World) : (ReflectliteValue.mk 133 p ReflectliteValue.flagAddr).run Tryd.prog w = .ok (.agg #[.pointer (some ⟨4, 133, none⟩), .pointer (some p), .int .u64 406]) w := by kernel_rfl
theorem as_elemV27 (a p : Addr) (W : World) (ha : W.cell? a = some (.pointer (some p))) :
    (ReflectliteValue.method (ReflectliteValue.valueError "reflectlite.Value.Elem" 0) ReflectliteValue.elem #[.agg #[.pointer (some ⟨4, 137, none⟩), .pointer (some a), .int .u64 150]]).run Tryd.prog W
      = .ok (.agg #[.pointer (some ⟨4, 133, none⟩), .pointer (some p), .int .u64 406]) W := by
  rw [as_rlm]
  simp only [Sem.run_bind, as_parts27, Result.andThen]
  simp [ReflectliteValue.elem, loadVar, isAgg, underlying, Tryd.underlying137, ha, Result.andThen, as_elemOf27, as_mk25]
theorem as_rls (v x : Value) : ReflectliteValue.set #[v, x] = (do
    let (some (dst, a, fl), some (src, b, _)) := (← ReflectliteValue.parts v, ← ReflectliteValue.parts x)
      | unsupported (.noEntry "extern/(internal/reflectlite.Value).Set.zeroValue")
    if fl / ReflectliteValue.flagAddr % 2 == 0 then unsupported (.noEntry "extern/(internal/reflectlite.Value).Set.unaddressable")
    let val ← loadVar src b
    if ← Rtype.directlyAssignable dst src then storeVar dst a val
    else if ← Rtype.implements dst src then
      if (← Rtype.kind src) == 20 then
        match val with
        | .nilIface => unsupported (.noEntry "extern/reflectlite: a nil value of one interface type handed on as a value of another")
        | _ => storeVar dst a val
      else storeVar dst a (.iface src val)
    else panicString ("reflectlite.Set: value of type " ++ (← Rtype.spelt src) ++ " is not assignable to type " ++ (← Rtype.spelt dst))
    pure (.tuple #[])) := rfl
theorem as_parts25a (a : Addr) (w : World) : (ReflectliteValue.parts (.agg #[.pointer (some ⟨4, 133, none⟩), .pointer (some a), .int .u64 406])).run Tryd.prog w = .ok (some (133, a, 406)) w := by kernel_rfl
theorem as_parts25 (a : Addr) (w : World) : (ReflectliteValue.parts (.agg #[.pointer (some ⟨4, 133, none⟩), .pointer (some a), .int .u64 150])).run Tryd.prog w = .ok (some (133, a, 150)) w := by kernel_rfl
theorem as_direct25 (w : World) : (Rtype.directlyAssignable 133 133).run Tryd.prog w = .ok true w := by kernel_rfl
theorem as_size25 (w : World) : (sizeOf 133).run Tryd.prog w = .ok 1 w := by kernel_rfl
theorem as_set25 (ta b e : Addr) (old : Value) (W : World) (hb : W.cell? b = some (.pointer (some e))) (ht : W.cell? ta = some old) (hf : W.frozen? ta = false) :
    (ReflectliteValue.set #[.agg #[.pointer (some ⟨4, 133, none⟩), .pointer (some ta), .int .u64 406], .agg #[.pointer (some ⟨4, 133, none⟩), .pointer (some b), .int .u64 150]]).run Tryd.prog W
      = .ok (.tuple #[]) (W.setCell ta (.pointer (some e))) := by
  rw [as_rls]
  simp only [Sem.run_bind, as_parts25a, as_parts25, Result.andThen]
  simp [ReflectliteValue.flagAddr, loadVar, isAgg, underlying, Tryd.underlying133, hb, Result.andThen, as_direct25, storeVar, Value.cells, storeCells, Addr.add]
  rw [run_store Tryd.prog W ta _ _ (by rfl)]
  simp [ht, hf]

set_option maxHeartbeats 4000000 in
theorem errors_As_hit (e t : Addr) (old : Value) (w : World) (hg : w.cell? ⟨0, 0, none⟩ = some (.iface 194 (.agg #[.pointer (some ⟨4, 99, none⟩)]))) (ht0 : w.cell? t = some old) (hf0 : w.frozen? t = false) :
    Calls Tryd.prog 89 #[.iface 133 (.pointer (some e)), .iface 137 (.pointer (some t))] w fun ev w' => ev = .returned (.bool true) ∧ w' = ((((w.alloc (.cells #[.pointer (some t)] 137)).alloc (.cells #[.pointer (some ⟨4, 137, none⟩), .pointer (some ⟨w.heap.size, 0, none⟩), .int .u64 150] 168)).alloc (.cells #[.pointer (some ⟨4, 137, none⟩), .pointer (some ⟨w.heap.size, 0, none⟩), .int .u64 150] 168)).alloc (.cells #[.pointer (some e)] 133)).setCell t (.pointer (some e)) := by
  have h6 := @run_callFunc_extern Tryd.prog 115 _ (fun args => ReflectliteValue.unpack (args.getD 0 (.tuple #[]))) Tryd.func115 (by kernel_rfl) (by kernel_rfl) (by kernel_rfl) (by kernel_rfl)
  have h7 := @run_callFunc_extern Tryd.prog 116 _ (ReflectliteValue.methodAny (ReflectliteValue.valueError "reflectlite.Value.Type" 0) (fun t _ _ _ => ReflectliteType.toType t)) Tryd.func116 (by kernel_rfl) (by kernel_rfl) (by kernel_rfl) (by kernel_rfl)
  have h8 := @run_callFunc_extern Tryd.prog 117 _ (ReflectliteValue.method (ReflectliteValue.valueError "reflectlite.Value.IsNil" 0) ReflectliteValue.isNil) Tryd.func117 (by kernel_rfl) (by kernel_rfl) (by kernel_rfl) (by kernel_rfl)
  have h27 := @run_callFunc_extern Tryd.prog 161 _ (ReflectliteType.abiMethod fun t => do pure (.int .u8 (← Rtype.kind t))) Tryd.func161 (by kernel_rfl) (by kernel_rfl) (by kernel_rfl) (by kernel_rfl)
  have h37 := @run_callFunc_extern Tryd.prog 185 _ (ReflectliteType.method ReflectliteType.elem) Tryd.func185 (by kernel_rfl) (by kernel_rfl) (by kernel_rfl) (by kernel_rfl)
  have h38 := @run_callFunc_extern Tryd.prog 186 _ (ReflectliteType.relation "Implements" ReflectliteType.implements_) Tryd.func186 (by kernel_rfl) (by kernel_rfl) (by kernel_rfl) (by kernel_rfl)
  have h10 := @run_callFunc_extern Tryd.prog 129 _ ReflectliteType.typeOf Tryd.func129 (by kernel_rfl) (by kernel_rfl) (by kernel_rfl) (by kernel_rfl)
  have h35 := @run_callFunc_extern Tryd.prog 183 _ (ReflectliteType.relation "AssignableTo" ReflectliteType.assignableTo) Tryd.func183 (by kernel_rfl) (by kernel_rfl) (by kernel_rfl) (by kernel_rfl)
  have h11 := @run_callFunc_extern Tryd.prog 130 _ (ReflectliteValue.method (ReflectliteValue.valueError "reflectlite.Value.Elem" 0) ReflectliteValue.elem) Tryd.func130 (by kernel_rfl) (by kernel_rfl) (by kernel_rfl) (by kernel_rfl)
  have h12 := @run_callFunc_extern Tryd.prog 131 _ ReflectliteValue.set Tryd.func131 (by kernel_rfl) (by kernel_rfl) (by kernel_rfl) (by kernel_rfl)
  have tO := as_typeOf25
  have mA := as_methodAssignableTo
  have a25 := as_assignable25
  have v25 := as_valueOf25
  have f6 := as_valueOf27
  have f7 := as_type27
  have mK := as_methodKind
  have mE := as_methodElem
  have mI := as_methodImplements
  have k27 := as_kind27
  have k25 := as_kind25
  have e27 := as_elem27
  have i25 := as_implements25
  have n8 := as_isNil27 ⟨w.heap.size, 0, none⟩ t ((w.alloc (.cells #[.pointer (some t)] 137)).alloc (.cells #[.pointer (some ⟨4, 137, none⟩), .pointer (some ⟨w.heap.size, 0, none⟩), .int .u64 150] 168)) (by simp)
  have hlt : 0 < w.heap.size := by
    rcases Nat.eq_zero_or_pos w.heap.size with h0 | h
    · simp [World.cell?, h0] at hg
    · exact h
  have hg2 : ((w.alloc (.cells #[.pointer (some t)] 137)).alloc (.cells #[.pointer (some ⟨4, 137, none⟩), .pointer (some ⟨w.heap.size, 0, none⟩), .int .u64 150] 168)).cell? ⟨0, 0, none⟩ = some (.iface 194 (.agg #[.pointer (some ⟨4, 99, none⟩)])) := by
    rw [World.cell?_alloc_lt _ _ ⟨0, 0, none⟩ (by simp), World.cell?_alloc_lt _ _ ⟨0, 0, none⟩ hlt]; exact hg
  have htl : t.block < w.heap.size := by
    rcases Nat.lt_or_ge t.block w.heap.size with h | h
    · exact h
    · simp [World.cell?, Array.getElem?_eq_none h] at ht0
  have el := as_elemV27 ⟨w.heap.size, 0, none⟩ t (((w.alloc (.cells #[.pointer (some t)] 137)).alloc (.cells #[.pointer (some ⟨4, 137, none⟩), .pointer (some ⟨w.heap.size, 0, none⟩), .int .u64 150] 168)).alloc (.cells #[.pointer (some ⟨4, 137, none⟩), .pointer (some ⟨w.heap.size, 0, none⟩), .int .u64 150] 168)) (by rw [World.cell?_alloc_lt _ _ ⟨w.heap.size, 0, none⟩ (by simp; omega)]; simp)
  have st := as_set25 t ⟨w.heap.size + 1 + 1 + 1, 0, none⟩ e old ((((w.alloc (.cells #[.pointer (some t)] 137)).alloc (.cells #[.pointer (some ⟨4, 137, none⟩), .pointer (some ⟨w.heap.size, 0, none⟩), .int .u64 150] 168)).alloc (.cells #[.pointer (some ⟨4, 137, none⟩), .pointer (some ⟨w.heap.size, 0, none⟩), .int .u64 150] 168)).alloc (.cells #[.pointer (some e)] 133))
    (by rw [World.cell?_alloc_at _ _ _ _ (by simp)]; rfl)
    (by rw [World.cell?_alloc_lt _ _ t (by simp; omega), World.cell?_alloc_lt _ _ t (by simp; omega), World.cell?_alloc_lt _ _ t (by simp; omega), World.cell?_alloc_lt _ _ t htl]; exact ht0)
    (by rw [World.frozen?_alloc_old _ _ t (by simp; omega), World.frozen?_alloc_old _ _ t (by simp; omega), World.frozen?_alloc_old _ _ t (by simp; omega), World.frozen?_alloc_old _ _ t (Nat.ne_of_lt htl)]; exact hf0)
  go_enter Tryd.func89, Tryd.ntmps89
  go_wp2
  refine wp_loop_rounds 1 ?_
  rw [rounds_succ]
  go_wp2
  go_ret
  exact ⟨rfl, rfl⟩
end Go.Proofs.YtcjchimenfadkaaDoor.W

end


section
namespace Go.Proofs.YtcjchimenfadkaaDoor.W
open Go Go.Ab Go.RowKit
def errC : Array Value := #[.iface 194 (.agg #[.pointer (some ⟨4, 99, none⟩)])]
abbrev ErrAt (σ : Store) : Prop := VarAt Tryd.prog "errors.errorType" errC σ
theorem alloc_heap_lt (w : World) (o : Go.Obj) {k : Nat} (h : k < w.heap.size) : (w.alloc o).heap[k]? = w.heap[k]? := Below.heap_alloc w o k h
theorem alloc_size (w : World) (o : Go.Obj) : (w.alloc o).heap.size = w.heap.size + 1 := by simp
/-- The error is a fault of one's own: the target gets it. -/
theorem errors_As {i j : Nat} {cs : List V} (σ : Store) (hg : ErrAt σ) (hi : σ[i]? = some (.box cs)) (hj : σ[j]? = some (.box [.nilp])) (hne : i ≠ j) :
    ACalls Tryd.prog 89 [.iface 133 (.ptr i 0), .iface 137 (.ptr j 0)] σ fun rr s => rr = .t (.bool true) ∧ s = σ.set j (.box [.ptr i 0]) := by
  refine ⟨⟨_, Tryd.func89, by decide +kernel, by decide +kernel⟩, ?_⟩
  rintro x cargs rfl hx ha
  simp only [VsRel, VRel] at ha
  obtain ⟨c1, l1, rfl, ⟨v1, rfl, ⟨cs1, b1, ho1, hb1, rfl⟩⟩, c2, l2, rfl, ⟨v2, rfl, ⟨cs2, b2, ho2, hb2, rfl⟩⟩, rfl⟩ := ha
  have hjo := hx.objs j _ hj
  obtain ⟨b2', arr, ty, fr, h1, h2, h3, h4, h5⟩ := hjo
  rw [hb2] at h1
  obtain rfl := Option.some.inj h1
  simp only [VsRel, VRel] at h5
  obtain ⟨c, l, harr, rfl, rfl⟩ := h5
  have ha1 : arr = #[.pointer none] := Array.ext' harr
  subst ha1
  have hblt := (Array.getElem?_eq_some_iff.1 h3).1
  have ht0 : x.w.cell? ⟨b2, 0, none⟩ = some (.pointer none) := by simp [World.cell?, h3]
  have hf0 : x.w.frozen? ⟨b2, 0, none⟩ = false := by
    simp only [World.frozen?, h3]
    exact h4 0 (by simp)
  have het : x.w.cell? ⟨0, 0, none⟩ = some (.iface 194 (.agg #[.pointer (some ⟨4, 99, none⟩)])) := by
    have := World.var?_cell (show Tryd.prog.globalNamed "errors.errorType" = some 0 by kernel_rfl) (hg.var hx) 0
    simpa [errC] using this
  refine (errors_As_hit ⟨b1, 0, none⟩ ⟨b2, 0, none⟩ _ x.w het ht0 hf0).mono ?_
  rintro e w' ⟨rfl, hw'⟩
  obtain ⟨w1, hw1⟩ : ∃ w1, w1 = ((((x.w.alloc (.cells #[.pointer (some ⟨b2, 0, none⟩)] 137)).alloc (.cells #[.pointer (some ⟨4, 137, none⟩), .pointer (some ⟨x.w.heap.size, 0, none⟩), .int .u64 150] 168)).alloc (.cells #[.pointer (some ⟨4, 137, none⟩), .pointer (some ⟨x.w.heap.size, 0, none⟩), .int .u64 150] 168)).alloc (.cells #[.pointer (some ⟨b1, 0, none⟩)] 133)) := ⟨_, rfl⟩
  rw [← hw1] at hw'
  have hbel : Below x.w.heap.size x.w w1 := by
    rw [hw1]
    exact (((((Below.refl _ _).alloc (Nat.le_refl _) _).alloc (by rw [alloc_size]; omega) _).alloc (by rw [alloc_size, alloc_size]; omega) _).alloc (by rw [alloc_size, alloc_size, alloc_size]; omega) _)
  have hh : w'.heap[b2]? = some (.cells #[.pointer (some ⟨b1, 0, none⟩)] ty fr) := by
    rw [hw', setCell_heap_eq ((hbel.block b2 hblt).trans h3)]
    rfl
  have hk : ∀ k, k < x.w.heap.size → (x.ρ j).blk ≠ some k → w'.heap[k]? = x.w.heap[k]? := fun k hk hne => by
    rw [hw', setCell_heap_ne _ _ _ _ _ (fun e => hne (by rw [hb2, e]))]
    exact hbel.block k hk
  have q1 : w'.os = x.w.os := by rw [hw']; exact hbel.os
  have q2 : w'.tape = x.w.tape := by rw [hw']; exact hbel.tape
  have q3 : w'.output = x.w.output := by rw [hw']; exact hbel.output
  have q4 : x.w.heap.size ≤ w'.heap.size := by rw [hw']; simpa [World.setCell] using hbel.size
  have ext := ext_put hx (ob := .box [.ptr i 0]) (pl := x.ρ j) hj trivial (Nat.le_refl _) (fun _ => rfl) q1 q2 q3 q4 hk
  refine ⟨_, x.put j (x.ρ j) (.box [.ptr i 0]) w', .t (.bool true), rfl, rfl, ⟨rfl, rfl⟩, by simp [VRel, TRel], ?_, ext⟩
  refine wrel_put hx hj trivial (Nat.le_refl _) (fun _ => rfl) q1 q2 q3 q4 hk (fun b hb => .inl hb) ?_
  refine ⟨b2, _, ty, fr, ?_, h2, hh, h4, ?_⟩
  · simp [Cx.put, upd, hb2]
  · simp only [VsRel, VRel]
    have hi' : (x.put j (x.ρ j) (.box [.ptr i 0]) w').σ[i]? = some (.box cs1) := by
      show (x.σ.set j _)[i]? = _
      rw [List.getElem?_set_ne (by omega)]
      exact ho1
    exact ⟨_, [], rfl, ⟨cs1, b1, hi', by simp [Cx.put, upd, hne, hb1], rfl⟩, rfl⟩
end Go.Proofs.YtcjchimenfadkaaDoor.W

end


section
open Go Go.Ab
set_option maxHeartbeats 2000000
namespace Go.Proofs.YtcjchimenfadkaaDoor.W
def c_impl_told : C := (.seq (.ops [⟨(some 2), none, (.mv (.c (.t (.int .i64 0))))⟩, ⟨(some 3), none, (.mv (.c (.t (.int .i64 0))))⟩]) (.seq (.ops [⟨(some 4), none, (.new [.nilp])⟩]) (.seq (.seq (.ops [⟨(some 5), none, (.mv (.t 0))⟩, ⟨(some 6), none, (.iface 137 (.t 4))⟩, ⟨(some 7), none, (.call (.c (.fn (.func 89) [])) [(.t 5), (.t 6)])⟩]) (.cond (.t 7) (.seq (.drawn [(.mk 0 false ⟨(some 8), none, (.load none (.t 4))⟩ []), (.mk 1 false ⟨(some 9), none, (.nilCheck (.t 8))⟩ []), (.mk 2 false ⟨(some 10), none, (.fieldAddr 0 (.t 9))⟩ []), (.mk 3 false ⟨(some 11), none, (.load none (.t 10))⟩ []), (.mk 4 false ⟨(some 12), none, (.load none (.t 4))⟩ []), (.mk 5 false ⟨(some 13), none, (.nilCheck (.t 12))⟩ []), (.mk 6 false ⟨(some 14), none, (.fieldAddr 1 (.t 13))⟩ []), (.mk 7 false ⟨(some 15), none, (.load none (.t 14))⟩ []), (.mk 8 false ⟨(some 2), none, (.mv (.t 11))⟩ []), (.mk 9 false ⟨(some 3), none, (.mv (.t 15))⟩ [])]) .ret) .skip)) (.seq (.ops [⟨(some 2), none, (.mv (.c (.t (.int .i64 0))))⟩, ⟨(some 3), none, (.mv (.c (.t (.int .i64 0))))⟩]) .ret))))
theorem k_impl_told : comp Tryd.prog 16 (Tryd.f55.body.getD .skip) = some c_impl_told := by kernel_rfl

theorem impl_told (c p : Int) (id : Nat) (σ : Store) (hg : ErrAt σ) (hid : σ[id]? = some (.box [.t (.int .i64 c), .t (.int .i64 p)])) : ACalls Tryd.prog 55 [.iface 133 (.ptr id 0)] σ fun rr σ' => rr = .tup [.t (.int .i64 c), .t (.int .i64 p)] ∧ σ' = σ := by
  refine acalls_of Tryd.func55 (by decide +kernel) (code := Tryd.f55.body.getD .skip) (n := 16) (c := c_impl_told) (rs := [(.tmp 2), (.tmp 3)]) rfl rfl k_impl_told (by kernel_rfl) (by simp) (fun hσ => ?_)
  have hl : id < σ.length := (List.getElem?_eq_some_iff.1 hid).1
  have h1 : (σ ++ [Go.Ab.Obj.box [.nilp]])[id]? = some (.box [.t (.int .i64 c), .t (.int .i64 p)]) := by rw [List.getElem?_append_left hl]; exact hid
  have h2 : ∀ o : Go.Ab.Obj, (σ ++ [o])[id]? = some (.box [.t (.int .i64 c), .t (.int .i64 p)]) := fun o => by rw [List.getElem?_append_left hl]; exact hid
  simp -implicitDefEqProofs only [c_impl_told, S0, S1, S2, S3, S4, S5, S6, S7, S8, S9, S10, S11, S12, S13, S14, S15, S16, S17, opv, opvs, eget, env0, setD, lenStr, lenSl, isNilP, isNilS, putAt, if_true, if_false, reduceCtorEq, Nat.reduceLeDiff, Nat.reduceEqDiff, Nat.reduceSub, Nat.reduceMul, Nat.reduceAdd]
  refine call_by (by rw [List.append_nil]; exact errors_As (i := id) (j := σ.length) _ (hg.app _) h1 (by simp) (by omega)) ?_
  rintro r s ⟨rfl, rfl⟩
  simp -implicitDefEqProofs only [h2, S0, S1, S2, S3, S4, S5, S6, S7, S8, S9, S10, S11, S12, S13, S14, S15, S16, S17, opv, opvs, eget, env0, setD, lenStr, lenSl, isNilP, isNilS, putAt, if_true, if_false, reduceCtorEq, Nat.reduceLeDiff, Nat.reduceEqDiff, Nat.reduceSub, Nat.reduceMul, Nat.reduceAdd]
  first | exact ret_same rfl hσ rfl ⟨rfl, rfl⟩ | exact ret_same0 rfl ⟨rfl, rfl⟩

end Go.Proofs.YtcjchimenfadkaaDoor.W

end
