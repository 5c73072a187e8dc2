/- What strconv.Itoa gives, told in this logic. Conditions: none. -/
import Derived.Test.YtcjchimenfadkaaDoorAb7
import Derived.Test.YtcjchimenfadkaaDoorProg
import Derived.KernelRfl
import Derived.Shelf.LaysM
import Derived.Shelf.Strconv.Itoa3
set_option linter.unusedSimpArgs false
set_option linter.unusedVariables false
set_option linter.defProp false
namespace Go.Proofs
open Go.Shelf
def Tryd.laysItoa_ren : Go.Shelf.Ren := ⟨fun | 171 => 108 | 243 => 124 | 246 => 135 | 283 => 136 | 284 => 137 | 285 => 138 | 286 => 139 | 129 => 141 | 317 => 140 | 318 => 142 | 319 => 143 | 320 => 144 | 337 => 145 | 338 => 146 | n => n, fun | 3 => 3 | 9 => 9 | 2 => 2 | 4 => 4 | 171 => 213 | 0 => 0 | 53 => 214 | 37 => 62 | 5 => 5 | 173 => 217 | 212 => 220 | 51 => 221 | 20 => 20 | 213 => 222 | 46 => 183 | 232 => 225 | 233 => 226 | n => n, fun | 17 => 1 | 18 => 2 | 19 => 3 | n => n⟩
theorem Tryd.laysItoa : Go.Proofs.LaysM.n171 Tryd.prog Tryd.laysItoa_ren := {
  mixed := by kernel_rfl
  f129 := Tryd.func141.trans (congrArg some (by kernel_rfl))
  f171 := Tryd.func108.trans (congrArg some (by kernel_rfl))
  f243 := Tryd.func124.trans (congrArg some (by kernel_rfl))
  f246 := Tryd.func135.trans (congrArg some (by kernel_rfl))
  f283 := Tryd.func136.trans (congrArg some (by kernel_rfl))
  f284 := Tryd.func137.trans (congrArg some (by kernel_rfl))
  f285 := Tryd.func138.trans (congrArg some (by kernel_rfl))
  f286 := Tryd.func139.trans (congrArg some (by kernel_rfl))
  f317 := Tryd.func140.trans (congrArg some (by kernel_rfl))
  f318 := Tryd.func142.trans (congrArg some (by kernel_rfl))
  f319 := Tryd.func143.trans (congrArg some (by kernel_rfl))
  f320 := Tryd.func144.trans (congrArg some (by kernel_rfl))
  f337 := Tryd.func145.trans (congrArg some (by kernel_rfl))
  f338 := Tryd.func146.trans (congrArg some (by kernel_rfl))
  t0 := Tryd.underlying0
  a0 := Tryd.isAgg0
  z0 := Tryd.sizeOf0
  v0 := Tryd.zeroValue0
  t2 := Tryd.underlying2
  a2 := Tryd.isAgg2
  z2 := Tryd.sizeOf2
  v2 := Tryd.zeroValue2
  t3 := Tryd.underlying3
  a3 := Tryd.isAgg3
  z3 := Tryd.sizeOf3
  v3 := Tryd.zeroValue3
  t4 := Tryd.underlying4
  a4 := Tryd.isAgg4
  z4 := Tryd.sizeOf4
  v4 := Tryd.zeroValue4
  t5 := Tryd.underlying5
  a5 := Tryd.isAgg5
  z5 := Tryd.sizeOf5
  v5 := Tryd.zeroValue5
  t9 := Tryd.underlying9
  a9 := Tryd.isAgg9
  z9 := Tryd.sizeOf9
  v9 := Tryd.zeroValue9
  t20 := Tryd.underlying20
  a20 := Tryd.isAgg20
  z20 := Tryd.sizeOf20
  v20 := Tryd.zeroValue20
  t37 := Tryd.underlying62
  a37 := Tryd.isAgg62
  z37 := Tryd.sizeOf62
  v37 := Tryd.zeroValue62
  t46 := Tryd.underlying183
  a46 := Tryd.isAgg183
  z46 := Tryd.sizeOf183
  v46 := Tryd.zeroValue183
  t51 := Tryd.underlying221
  a51 := Tryd.isAgg221
  z51 := Tryd.sizeOf221
  v51 := Tryd.zeroValue221
  t53 := Tryd.underlying214
  a53 := Tryd.isAgg214
  z53 := Tryd.sizeOf214
  v53 := Tryd.zeroValue214
  t171 := Tryd.underlying213
  a171 := Tryd.isAgg213
  z171 := Tryd.sizeOf213
  v171 := Tryd.zeroValue213
  t173 := Tryd.underlying217
  a173 := Tryd.isAgg217
  z173 := Tryd.sizeOf217
  v173 := Tryd.zeroValue217
  t212 := Tryd.underlying220
  a212 := Tryd.isAgg220
  z212 := Tryd.sizeOf220
  v212 := Tryd.zeroValue220
  t213 := Tryd.underlying222
  a213 := Tryd.isAgg222
  z213 := Tryd.sizeOf222
  t232 := Tryd.underlying225
  a232 := Tryd.isAgg225
  z232 := Tryd.sizeOf225
  v232 := Tryd.zeroValue225
  t233 := Tryd.underlying226
  a233 := Tryd.isAgg226
  z233 := Tryd.sizeOf226
  v233 := Tryd.zeroValue226
  g17 := by kernel_rfl
  g18 := by kernel_rfl
  g19 := by kernel_rfl
  i0 := by kernel_rfl
  i2 := by kernel_rfl
  i3 := by kernel_rfl
  i4 := by kernel_rfl
  i5 := by kernel_rfl
  i9 := by kernel_rfl
  i20 := by kernel_rfl
  i37 := by kernel_rfl
  i46 := by kernel_rfl
  i51 := by kernel_rfl
  i53 := by kernel_rfl
  i171 := by kernel_rfl
  i173 := by kernel_rfl
  i212 := by kernel_rfl
  i232 := by kernel_rfl
  i233 := by kernel_rfl
  m17 := by kernel_rfl
  m18 := by kernel_rfl
  m19 := by kernel_rfl }

end Go.Proofs
namespace Go.Proofs.YtcjchimenfadkaaDoor.W
open Go Go.Ab
def pow10C : Array Value := (Lib.pow10Tab.map fun z => Value.int .u64 z).toArray
abbrev PowAt (σ : Store) : Prop := VarAt Tryd.prog "internal/strconv.uint64pow10" pow10C σ
theorem strconv_Itoa (n : Int) (h0 : -9223372036854775808 ≤ n) (h1 : n ≤ 9223372036854775807) (σ : Store) (hg : PowAt σ) : ACalls Tryd.prog 108 [.t (.int .i64 n)] σ fun rr σ' => rr = .t (.str (Lib.itoa n)) ∧ σ' = σ := by
  refine acalls_lift (Q := fun rr => rr = .t (.str (Lib.itoa n))) ⟨_, Tryd.func108, by decide +kernel, by decide +kernel⟩ ?_
  rintro x cargs rfl hx ha
  simp only [VsRel, VRel, TRel] at ha
  obtain ⟨c, cs, rfl, rfl, rfl⟩ := ha
  refine (Any.strconv_Itoa Tryd.laysItoa n h0 h1 x.w (hg.var hx)).mono ?_
  rintro e w' ⟨rfl, k, os, rfl⟩
  exact ⟨_, _, rfl, below_grow _ k os, rfl, by simp [VRel, TRel]⟩
end Go.Proofs.YtcjchimenfadkaaDoor.W
