/- What the hall reads as a decimal, told in this logic. Conditions: none. -/
import Derived.Test.YtelpmllnallilaaDoorHallNum
import Derived.Test.YtelpmllnallilaaDoorAb7
import Derived.Test.YtelpmllnallilaaDoorProg
import Derived.KernelRfl
import Derived.Shelf.LaysC
import Derived.Shelf.Strconv.AtoiAll
import Derived.WalkKit
import Derived.Laws.Unary
import Derived.BigRegion
import Derived.Lib.AtoiErrMem
set_option linter.unusedSimpArgs false
set_option linter.unusedVariables false
set_option linter.defProp false
namespace Go.Proofs
open Go.Shelf
def Tryd.laysAtoi_ren : Go.Shelf.Ren := ⟨fun | 172 => 20 | 244 => 22 | 245 => 23 | 247 => 24 | 279 => 25 | 280 => 26 | 281 => 27 | 282 => 28 | 287 => 29 | 316 => 30 | 171 => 32 | 205 => 31 | 321 => 33 | 322 => 34 | 243 => 35 | 246 => 36 | 283 => 37 | 284 => 38 | 285 => 39 | 286 => 40 | 129 => 42 | 317 => 41 | 318 => 43 | 319 => 44 | 320 => 45 | 337 => 46 | 338 => 47 | n => n, fun | 9 => 9 | 3 => 3 | 75 => 41 | 76 => 42 | 4 => 4 | 5 => 5 | 167 => 49 | 37 => 50 | 0 => 0 | 85 => 51 | 2 => 2 | 168 => 53 | 53 => 56 | 175 => 57 | 46 => 59 | 210 => 62 | 127 => 66 | 145 => 69 | 143 => 67 | 21 => 21 | 171 => 71 | 173 => 74 | 212 => 77 | 51 => 78 | 20 => 20 | 213 => 79 | 232 => 83 | 233 => 84 | 80 => 87 | n => n, fun | 15 => 1 | 16 => 2 | 17 => 3 | 18 => 4 | 19 => 5 | n => n⟩
theorem Tryd.laysAtoi : Go.Proofs.LaysC.n172 Tryd.prog Tryd.laysAtoi_ren := {
  mixed := by kernel_rfl
  f129 := Tryd.func42.trans (congrArg some (by kernel_rfl))
  f171 := Tryd.func32.trans (congrArg some (by kernel_rfl))
  f172 := Tryd.func20.trans (congrArg some (by kernel_rfl))
  f205 := Tryd.func31.trans (congrArg some (by kernel_rfl))
  f243 := Tryd.func35.trans (congrArg some (by kernel_rfl))
  f244 := Tryd.func22.trans (congrArg some (by kernel_rfl))
  f245 := Tryd.func23.trans (congrArg some (by kernel_rfl))
  f246 := Tryd.func36.trans (congrArg some (by kernel_rfl))
  f247 := Tryd.func24.trans (congrArg some (by kernel_rfl))
  f279 := Tryd.func25.trans (congrArg some (by kernel_rfl))
  f280 := Tryd.func26.trans (congrArg some (by kernel_rfl))
  f281 := Tryd.func27.trans (congrArg some (by kernel_rfl))
  f282 := Tryd.func28.trans (congrArg some (by kernel_rfl))
  f283 := Tryd.func37.trans (congrArg some (by kernel_rfl))
  f284 := Tryd.func38.trans (congrArg some (by kernel_rfl))
  f285 := Tryd.func39.trans (congrArg some (by kernel_rfl))
  f286 := Tryd.func40.trans (congrArg some (by kernel_rfl))
  f287 := Tryd.func29.trans (congrArg some (by kernel_rfl))
  f316 := Tryd.func30.trans (congrArg some (by kernel_rfl))
  f317 := Tryd.func41.trans (congrArg some (by kernel_rfl))
  f318 := Tryd.func43.trans (congrArg some (by kernel_rfl))
  f319 := Tryd.func44.trans (congrArg some (by kernel_rfl))
  f320 := Tryd.func45.trans (congrArg some (by kernel_rfl))
  f321 := Tryd.func33.trans (congrArg some (by kernel_rfl))
  f322 := Tryd.func34.trans (congrArg some (by kernel_rfl))
  f337 := Tryd.func46.trans (congrArg some (by kernel_rfl))
  f338 := Tryd.func47.trans (congrArg some (by kernel_rfl))
  t0 := Tryd.underlying0
  a0 := Tryd.isAgg0
  z0 := Tryd.sizeOf0
  v0 := Tryd.zeroValue0
  t2 := Tryd.underlying2
  a2 := Tryd.isAgg2
  z2 := Tryd.sizeOf2
  v2 := Tryd.zeroValue2
  t3 := Tryd.underlying3
  a3 := Tryd.isAgg3
  z3 := Tryd.sizeOf3
  v3 := Tryd.zeroValue3
  t4 := Tryd.underlying4
  a4 := Tryd.isAgg4
  z4 := Tryd.sizeOf4
  v4 := Tryd.zeroValue4
  t5 := Tryd.underlying5
  a5 := Tryd.isAgg5
  z5 := Tryd.sizeOf5
  v5 := Tryd.zeroValue5
  t9 := Tryd.underlying9
  a9 := Tryd.isAgg9
  z9 := Tryd.sizeOf9
  v9 := Tryd.zeroValue9
  t20 := Tryd.underlying20
  a20 := Tryd.isAgg20
  z20 := Tryd.sizeOf20
  v20 := Tryd.zeroValue20
  t21 := Tryd.underlying21
  a21 := Tryd.isAgg21
  z21 := Tryd.sizeOf21
  v21 := Tryd.zeroValue21
  t37 := Tryd.underlying50
  a37 := Tryd.isAgg50
  z37 := Tryd.sizeOf50
  v37 := Tryd.zeroValue50
  t46 := Tryd.underlying59
  a46 := Tryd.isAgg59
  z46 := Tryd.sizeOf59
  v46 := Tryd.zeroValue59
  t51 := Tryd.underlying78
  a51 := Tryd.isAgg78
  z51 := Tryd.sizeOf78
  v51 := Tryd.zeroValue78
  t53 := Tryd.underlying56
  a53 := Tryd.isAgg56
  z53 := Tryd.sizeOf56
  v53 := Tryd.zeroValue56
  t75 := Tryd.underlying41
  a75 := Tryd.isAgg41
  z75 := Tryd.sizeOf41
  v75 := Tryd.zeroValue41
  t76 := Tryd.underlying42
  a76 := Tryd.isAgg42
  z76 := Tryd.sizeOf42
  v76 := Tryd.zeroValue42
  t85 := Tryd.underlying51
  a85 := Tryd.isAgg51
  z85 := Tryd.sizeOf51
  v85 := Tryd.zeroValue51
  t127 := Tryd.underlying66
  a127 := Tryd.isAgg66
  z127 := Tryd.sizeOf66
  v127 := Tryd.zeroValue66
  t143 := Tryd.underlying67
  a143 := Tryd.isAgg67
  z143 := Tryd.sizeOf67
  v143 := Tryd.zeroValue67
  t145 := Tryd.underlying69
  a145 := Tryd.isAgg69
  z145 := Tryd.sizeOf69
  v145 := Tryd.zeroValue69
  t167 := Tryd.underlying49
  a167 := Tryd.isAgg49
  z167 := Tryd.sizeOf49
  v167 := Tryd.zeroValue49
  t168 := Tryd.underlying53
  a168 := Tryd.isAgg53
  z168 := Tryd.sizeOf53
  v168 := Tryd.zeroValue53
  t171 := Tryd.underlying71
  a171 := Tryd.isAgg71
  z171 := Tryd.sizeOf71
  v171 := Tryd.zeroValue71
  t173 := Tryd.underlying74
  a173 := Tryd.isAgg74
  z173 := Tryd.sizeOf74
  v173 := Tryd.zeroValue74
  t175 := Tryd.underlying57
  a175 := Tryd.isAgg57
  z175 := Tryd.sizeOf57
  v175 := Tryd.zeroValue57
  t210 := Tryd.underlying62
  a210 := Tryd.isAgg62
  z210 := Tryd.sizeOf62
  v210 := Tryd.zeroValue62
  t212 := Tryd.underlying77
  a212 := Tryd.isAgg77
  z212 := Tryd.sizeOf77
  v212 := Tryd.zeroValue77
  t213 := Tryd.underlying79
  a213 := Tryd.isAgg79
  z213 := Tryd.sizeOf79
  t232 := Tryd.underlying83
  a232 := Tryd.isAgg83
  z232 := Tryd.sizeOf83
  v232 := Tryd.zeroValue83
  t233 := Tryd.underlying84
  a233 := Tryd.isAgg84
  z233 := Tryd.sizeOf84
  v233 := Tryd.zeroValue84
  g15 := by kernel_rfl
  g16 := by kernel_rfl
  g17 := by kernel_rfl
  g18 := by kernel_rfl
  g19 := by kernel_rfl
  t80 := Tryd.underlying87
  a80 := Tryd.isAgg87
  z80 := Tryd.sizeOf87
  v80 := Tryd.zeroValue87
  i0 := by kernel_rfl
  i2 := by kernel_rfl
  i3 := by kernel_rfl
  i4 := by kernel_rfl
  i5 := by kernel_rfl
  i9 := by kernel_rfl
  i20 := by kernel_rfl
  i21 := by kernel_rfl
  i37 := by kernel_rfl
  i46 := by kernel_rfl
  i51 := by kernel_rfl
  i53 := by kernel_rfl
  i75 := by kernel_rfl
  i76 := by kernel_rfl
  i80 := by kernel_rfl
  i85 := by kernel_rfl
  i127 := by kernel_rfl
  i143 := by kernel_rfl
  i145 := by kernel_rfl
  i167 := by kernel_rfl
  i168 := by kernel_rfl
  i171 := by kernel_rfl
  i173 := by kernel_rfl
  i175 := by kernel_rfl
  i210 := by kernel_rfl
  i212 := by kernel_rfl
  i232 := by kernel_rfl
  i233 := by kernel_rfl
  m15 := by kernel_rfl
  m16 := by kernel_rfl
  m17 := by kernel_rfl
  m18 := by kernel_rfl
  m19 := by kernel_rfl
  c0 := by kernel_rfl
  c2 := by kernel_rfl
  c3 := by kernel_rfl
  c4 := by kernel_rfl
  c5 := by kernel_rfl
  c9 := by kernel_rfl
  c20 := by kernel_rfl
  c21 := by kernel_rfl
  c37 := by kernel_rfl
  c46 := by kernel_rfl
  c51 := by kernel_rfl
  c53 := by kernel_rfl
  c75 := by kernel_rfl
  c76 := by kernel_rfl
  c80 := by kernel_rfl
  c85 := by kernel_rfl
  c127 := by kernel_rfl
  c143 := by kernel_rfl
  c145 := by kernel_rfl
  c167 := by kernel_rfl
  c168 := by kernel_rfl
  c171 := by kernel_rfl
  c173 := by kernel_rfl
  c175 := by kernel_rfl
  c210 := by kernel_rfl
  c212 := by kernel_rfl
  c213 := by kernel_rfl
  c232 := by kernel_rfl
  c233 := by kernel_rfl }

end Go.Proofs
namespace Go.Proofs.YtelpmllnallilaaDoor.W
open Go Go.Ab Go.RowKit
theorem un_not (b : Bool) : Go.Op.unary Go.UnOp.not (Value.bool b) = pure (.bool !b) := rfl
theorem strconv_Atoi (s : List UInt8) (hs : decG s = true) (σ : Store) : ACalls Tryd.prog 20 [.t (.str s)] σ fun rr σ' => rr = .tup [.t (.int .i64 ((valN s : Nat) : Int)), .nili] ∧ σ' = σ := by
  refine acalls_lift (Q := fun rr => rr = .tup [.t (.int .i64 ((valN s : Nat) : Int)), .nili]) ⟨_, Tryd.func20, by decide +kernel, by decide +kernel⟩ ?_
  rintro x cargs rfl hx ha
  simp only [VsRel, VRel, TRel] at ha
  obtain ⟨c, cs, rfl, ⟨b, rfl, hb⟩, rfl⟩ := ha
  refine (Any.strconv_Atoi_ok Tryd.laysAtoi ⟨s.toArray⟩ (by have := (dec_parts hs).2.1; show s.length ≤ _; omega) _ (atoi_dec hs) x.w).mono ?_
  rintro e w' ⟨rfl, hw⟩
  have hb : Below x.w.heap.size x.w w' := by
    rcases hw with rfl | ⟨t, rfl⟩
    · exact Below.refl _ _
    · exact Lib.bytesWorld_below _ _ _
  exact ⟨_, _, rfl, hb, rfl, by simp [VRel, VsRel, TRel]⟩
theorem tup_val {x : Cx} {k : IntKind} {n : Int} {v : Value} (h : VRel x (.tup [.t (.int k n), .nili]) v) : v = .tuple #[.int k n, .nilIface] := by
  simp only [VRel, VsRel, TRel] at h
  obtain ⟨vs, rfl, c, l, h1, rfl, c2, l2, rfl, rfl, rfl⟩ := h
  exact congrArg _ (Array.ext' h1)
abbrev HwAt (pe : Value) (σ : Store) : Prop := VarAt Tryd.prog "loop.example/wharfdesk/impl.errHwNumber" #[.iface 67 pe] σ
set_option maxHeartbeats 4000000 in
theorem impl_hwDec (pe : Value) (hpe : pe.oneCell' = true) (s : List UInt8) (hs : s.length ≤ 1048576) (σ : Store) (hg : HwAt pe σ) : ACalls Tryd.prog 16 [.t (.str s)] σ fun rr σ' => rr = (if decG s = true then .tup [.t (.int .i64 ((valN s : Nat) : Int)), .nili] else .tup [.t (.int .i64 0), .iface 67 .any]) ∧ σ' = σ := by
  refine ⟨⟨_, Tryd.func16, by decide +kernel, by decide +kernel⟩, ?_⟩
  rintro x cargs hσ hx ha
  have ha0 := ha
  simp only [VsRel, VRel, TRel] at ha
  obtain ⟨c, cs, rfl, ⟨b, rfl, hb⟩, rfl⟩ := ha
  have e19 : ∀ args w, (callFunc 19 args).run Tryd.prog w = .ok (.enter 19 args) w := enters_of Tryd.func19 (by kernel_rfl) rfl
  have e20 : ∀ args w, (callFunc 20 args).run Tryd.prog w = .ok (.enter 20 args) w := enters_of Tryd.func20 (by kernel_rfl) rfl
  go_enter Tryd.func16, Tryd.ntmps16
  go_wp2_with (go_at_fn 19; refine ((impl_hwIsDecimal s hs σ).2 x _ hσ hx ha0).mono ?_; rintro e W1 ⟨v, y, r, rfl, rfl, ⟨rfl, hyσ⟩, hv, hy, hxy⟩)
  simp only [VRel, TRel] at hv
  subst hv
  have hcell : y.w.cell? ⟨0, 0, none⟩ = some (.iface 67 pe) := by
    have := World.var?_cell (show Tryd.prog.globalNamed "loop.example/wharfdesk/impl.errHwNumber" = some 0 by kernel_rfl) (VarAt.var (x := y) (by rw [hyσ]; exact hg) hy) 0
    simpa using this
  have hdr : Below y.w.heap.size y.w y.w.drew := (Below.refl _ _).drew
  have hcell2 : y.w.drew.cell? ⟨0, 0, none⟩ = some (.iface 67 pe) := (hdr.cell (Lib.lt_of_cell hcell)).trans hcell
  rcases hd : decG s with _ | _
  · simp only [un_not, Sem.run_pure, Result.andThen, Bool.not_true, Bool.not_false]
    go_wp2
    go_region
    all_goals go_wp2
    all_goals go_ret2
    all_goals exact ⟨_, rfl, { y with w := y.w.drew }, rfl, _, ⟨rfl, hyσ⟩, by simp only [VRel, VsRel, TRel]; exact ⟨_, rfl, _, _, rfl, rfl, _, _, rfl, ⟨_, rfl, hpe⟩, rfl⟩, below_wrel hy hdr, hxy.trans (below_ext hy hdr)⟩
  · have hyv : VsRel y [.t (.str s)] [Value.string ⟨s.toArray⟩] := by simp [VsRel, VRel, TRel]
    simp only [un_not, Sem.run_pure, Result.andThen, Bool.not_true, Bool.not_false]
    go_wp2_with (go_at_fn 20; refine ((strconv_Atoi s hd σ).2 y _ hyσ hy hyv).mono ?_; rintro e W1 ⟨v, y2, r, rfl, rfl, ⟨rfl, hyσ2⟩, hv, hy2, hxy2⟩; obtain rfl := tup_val hv)
    go_ret2
    exact ⟨_, rfl, y2, rfl, _, ⟨rfl, hyσ2⟩, hv, hy2, hxy.trans hxy2⟩
end Go.Proofs.YtelpmllnallilaaDoor.W
