/- What is wrong with an object: the program. Conditions: none. -/
/- What is wrong with an object, and where: the program. Conditions: none. -/
import Derived.Test.YtcjchimenfadkaaDoorGateChkS
import Derived.Test.YtcjchimenfadkaaDoorGateTold
set_option linter.unusedSimpArgs false
set_option linter.unusedVariables false
set_option linter.defProp false

section
open Go Go.Ab
set_option maxHeartbeats 2000000
namespace Go.Proofs.YtcjchimenfadkaaDoor.W
/-- An error, or none, behind a call: the code and the place. -/
def ErrR (σ : Store) (c : Int × Int) (r : V) (s : Store) : Prop :=
  (c.1 = 0 ∧ r = .nili ∧ ∃ τ, s = σ ++ τ) ∨ (c.1 ≠ 0 ∧ ∃ τ id, s = σ ++ τ ∧ r = .iface 133 (.ptr id 0) ∧ s[id]? = some (.box [.t (.int .i64 c.1), .t (.int .i64 c.2)]))
def formE (l : List GateShape) (o : GateObject) : Int × Int := if formC l o = true then (0, 0) else (1, 0)
theorem fin_err {σ τ : Store} {c : Int × Int} {u : V} (h : ErrR σ c u (σ ++ τ)) : retV σ.length (ErrR σ c) (σ ++ τ) (some [u]) := fin_keep (by simp) h

def c_impl_checkForm : C := (.seq (.ops [⟨(some 3), none, (.box (.t 1))⟩, ⟨(some 4), none, (.mv (.c .nili))⟩]) (.seq (.ops [⟨(some 8), none, (.mv (.t 0))⟩, ⟨(some 9), none, (.load (some 7) (.t 3))⟩, ⟨(some 10), none, (.call (.c (.fn (.func 59) [])) [(.t 8), (.t 9)])⟩, ⟨(some 7), none, (.mv (.t 10))⟩, ⟨(some 11), none, (.extract (.t 7) 0)⟩, ⟨(some 12), none, (.extract (.t 7) 1)⟩, ⟨(some 5), none, (.mv (.t 11))⟩, ⟨(some 6), none, (.mv (.t 12))⟩]) (.seq (.seq (.ops [⟨(some 13), none, (.mv (.t 6))⟩, ⟨(some 14), none, (.un .not (.t 13))⟩, ⟨(some 15), none, (.mv (.t 14))⟩, ⟨(some 16), (some ⟨15, false⟩), (.mv (.t 0))⟩, ⟨(some 17), (some ⟨15, false⟩), (.call (.c (.fn (.func 85) [])) [(.t 16)])⟩, ⟨(some 18), (some ⟨15, false⟩), (.un .not (.t 17))⟩, ⟨(some 19), none, (.pick (.t 15) (.c (.t (.bool true))) (.t 18))⟩, ⟨(some 20), none, (.mv (.t 19))⟩, ⟨(some 21), (some ⟨20, false⟩), (.fieldAddr 1 (.t 3))⟩, ⟨(some 22), (some ⟨20, false⟩), (.load none (.t 21))⟩, ⟨(some 23), (some ⟨20, false⟩), (.call (.c (.fn (.func 86) [])) [(.t 22)])⟩, ⟨(some 24), (some ⟨20, false⟩), (.un .not (.t 23))⟩, ⟨(some 25), none, (.pick (.t 20) (.c (.t (.bool true))) (.t 24))⟩, ⟨(some 26), none, (.mv (.t 25))⟩, ⟨(some 27), (some ⟨26, false⟩), (.fieldAddr 2 (.t 3))⟩, ⟨(some 28), (some ⟨26, false⟩), (.load none (.t 27))⟩, ⟨(some 29), (some ⟨26, false⟩), (.call (.c (.fn (.func 86) [])) [(.t 28)])⟩, ⟨(some 30), (some ⟨26, false⟩), (.un .not (.t 29))⟩, ⟨(some 31), none, (.pick (.t 26) (.c (.t (.bool true))) (.t 30))⟩, ⟨(some 32), none, (.mv (.t 31))⟩, ⟨(some 33), (some ⟨32, false⟩), (.fieldAddr 5 (.t 3))⟩, ⟨(some 34), (some ⟨32, false⟩), (.load none (.t 33))⟩, ⟨(some 35), (some ⟨32, false⟩), (.len false (.t 34))⟩, ⟨(some 36), (some ⟨32, false⟩), (.bin .gtr (.t 35) (.c (.t (.int .i64 3))))⟩, ⟨(some 37), none, (.pick (.t 32) (.c (.t (.bool true))) (.t 36))⟩, ⟨(some 38), none, (.mv (.t 37))⟩, ⟨(some 39), (some ⟨38, false⟩), (.fieldAddr 5 (.t 3))⟩, ⟨(some 40), (some ⟨38, false⟩), (.load none (.t 39))⟩, ⟨(some 41), (some ⟨38, false⟩), (.call (.c (.fn (.func 87) [])) [(.t 40)])⟩, ⟨(some 42), (some ⟨38, false⟩), (.un .not (.t 41))⟩, ⟨(some 43), none, (.pick (.t 38) (.c (.t (.bool true))) (.t 42))⟩, ⟨(some 44), none, (.mv (.t 43))⟩, ⟨(some 45), (some ⟨44, false⟩), (.fieldAddr 6 (.t 3))⟩, ⟨(some 46), (some ⟨44, false⟩), (.load none (.t 45))⟩, ⟨(some 47), (some ⟨44, false⟩), (.bin .lss (.t 46) (.c (.t (.int .i64 0))))⟩, ⟨(some 48), none, (.pick (.t 44) (.c (.t (.bool true))) (.t 47))⟩, ⟨(some 49), none, (.mv (.t 48))⟩, ⟨(some 50), (some ⟨49, false⟩), (.fieldAddr 6 (.t 3))⟩, ⟨(some 51), (some ⟨49, false⟩), (.load none (.t 50))⟩, ⟨(some 52), (some ⟨49, false⟩), (.bin .gtr (.t 51) (.c (.t (.int .i64 1000000))))⟩, ⟨(some 53), none, (.pick (.t 49) (.c (.t (.bool true))) (.t 52))⟩]) (.cond (.t 53) (.seq (.ops [⟨(some 54), none, (.build [(.t (.int .i64 0)), (.t (.int .i64 0))] [⟨0, ⟨1, (.c (.t (.int .i64 1)))⟩⟩])⟩, ⟨(some 55), none, (.box (.t 54))⟩, ⟨(some 56), none, (.iface 133 (.t 55))⟩, ⟨(some 4), none, (.mv (.t 56))⟩]) .ret) .skip)) (.seq (.ops [⟨(some 4), none, (.mv (.c .nili))⟩]) .ret))))
theorem k_impl_checkForm : comp Tryd.prog 57 (Tryd.f53.body.getD .skip) = some c_impl_checkForm := by kernel_rfl

theorem impl_checkForm (l : List GateShape) (hl : GateShape.OkS l) (o : GateObject) (ho : o.Ok) (σ : Store) : ACalls Tryd.prog 53 [.t (tGateShapeS l), .agg o.vs] σ (ErrR σ (formE l o)) := by
  refine acalls_of Tryd.func53 (by decide +kernel) (code := Tryd.f53.body.getD .skip) (n := 57) (c := c_impl_checkForm) (rs := [(.tmp 4)]) rfl rfl k_impl_checkForm (by kernel_rfl) (by simp) (fun hσ => ?_)
  have hh : True := trivial
  have y1 := ho.Values
  have y2 := ho.Holds
  simp -implicitDefEqProofs only [c_impl_checkForm, GateObject.vs, S0, S1, S2, S3, S4, S5, S6, S7, S8, S9, S10, S11, S12, S13, S14, S15, S16, S17, opv, opvs, eget, env0, setD, lenStr, lenSl, isNilP, isNilS, putAt, if_true, if_false, reduceCtorEq, Nat.reduceLeDiff, Nat.reduceEqDiff, Nat.reduceSub, Nat.reduceMul, Nat.reduceAdd]
  have c1 := impl_fieldsOf l hl.1 o
  simp only [GateObject.vs] at c1
  refine call_pure (c1 _) ?_
  have bad : formC l o = false → formE l o = (1, 0) := fun h => by rw [formE, h]; rfl
  have good : formC l o = true → formE l o = (0, 0) := fun h => by rw [formE, h]; rfl
  have fbad : formC l o = false → ∀ τ : Store, ErrR σ (formE l o) (.iface 133 (.ptr (σ.length + 1) 0)) (σ ++ [.box o.vs, .box [.t (.int .i64 1), .t (.int .i64 0)]]) := fun h τ => by
    rw [bad h]
    exact .inr ⟨by simp, _, _, rfl, rfl, by simp⟩
  rcases hf : fieldsR l o with _ | fs
  · have hn : formC l o = false := by rw [formC, hf]; rfl
    simp -implicitDefEqProofs only [hf, fldV, Option.isSome_none, Bool.not_false, cond_t, cond_f, S0, S1, S2, S3, S4, S5, S6, S7, S8, S9, S10, S11, S12, S13, S14, S15, S16, S17, opv, opvs, eget, env0, setD, lenStr, lenSl, isNilP, isNilS, putAt, if_true, if_false, reduceCtorEq, Nat.reduceLeDiff, Nat.reduceEqDiff, Nat.reduceSub, Nat.reduceMul, Nat.reduceAdd]
    exact fin_err (fbad hn [])
  simp -implicitDefEqProofs only [hf, fldV, Option.isSome_some, Bool.not_true, cond_t, cond_f, S0, S1, S2, S3, S4, S5, S6, S7, S8, S9, S10, S11, S12, S13, S14, S15, S16, S17, opv, opvs, eget, env0, setD, lenStr, lenSl, isNilP, isNilS, putAt, if_true, if_false, reduceCtorEq, Nat.reduceLeDiff, Nat.reduceEqDiff, Nat.reduceSub, Nat.reduceMul, Nat.reduceAdd]
  repeat' (first
    | ((with_reducible refine cond_known (fun h => ?_) (fun h => ?_)) <;> (replace hh := And.intro h hh; clear h; simp -implicitDefEqProofs only [hh, cond_t, cond_f, List.length_map, S0, S1, S2, S3, S4, S5, S6, S7, S8, S9, S10, S11, S12, S13, S14, S15, S16, S17, opv, opvs, eget, env0, setD, lenStr, lenSl, isNilP, isNilS, putAt, if_true, if_false, reduceCtorEq, Nat.reduceLeDiff, Nat.reduceEqDiff, Nat.reduceSub, Nat.reduceMul, Nat.reduceAdd]))
    | ((with_reducible refine call_pure (impl_GateShapesOk l hl _) ?_); simp -implicitDefEqProofs only [hh, cond_t, cond_f, List.length_map, S0, S1, S2, S3, S4, S5, S6, S7, S8, S9, S10, S11, S12, S13, S14, S15, S16, S17, opv, opvs, eget, env0, setD, lenStr, lenSl, isNilP, isNilS, putAt, if_true, if_false, reduceCtorEq, Nat.reduceLeDiff, Nat.reduceEqDiff, Nat.reduceSub, Nat.reduceMul, Nat.reduceAdd])
    | ((with_reducible refine call_pure (impl_isName o.Name ho.Name _) ?_); simp -implicitDefEqProofs only [hh, cond_t, cond_f, List.length_map, S0, S1, S2, S3, S4, S5, S6, S7, S8, S9, S10, S11, S12, S13, S14, S15, S16, S17, opv, opvs, eget, env0, setD, lenStr, lenSl, isNilP, isNilS, putAt, if_true, if_false, reduceCtorEq, Nat.reduceLeDiff, Nat.reduceEqDiff, Nat.reduceSub, Nat.reduceMul, Nat.reduceAdd])
    | ((with_reducible refine call_pure (impl_isName o.Team ho.Team _) ?_); simp -implicitDefEqProofs only [hh, cond_t, cond_f, List.length_map, S0, S1, S2, S3, S4, S5, S6, S7, S8, S9, S10, S11, S12, S13, S14, S15, S16, S17, opv, opvs, eget, env0, setD, lenStr, lenSl, isNilP, isNilS, putAt, if_true, if_false, reduceCtorEq, Nat.reduceLeDiff, Nat.reduceEqDiff, Nat.reduceSub, Nat.reduceMul, Nat.reduceAdd])
    | ((with_reducible refine call_pure (impl_ascendingNames o.Holds ho.Holds _) ?_); simp -implicitDefEqProofs only [hh, cond_t, cond_f, List.length_map, S0, S1, S2, S3, S4, S5, S6, S7, S8, S9, S10, S11, S12, S13, S14, S15, S16, S17, opv, opvs, eget, env0, setD, lenStr, lenSl, isNilP, isNilS, putAt, if_true, if_false, reduceCtorEq, Nat.reduceLeDiff, Nat.reduceEqDiff, Nat.reduceSub, Nat.reduceMul, Nat.reduceAdd])
    | ((with_reducible refine fin_err ?_); (try simp only [Known] at hh); first | exact fbad (by grind [formC, formB, wi]) [] | exact .inl ⟨by rw [good (by grind [formC, formB, wi])], rfl, _, rfl⟩))

def c_impl_checkFields : C := (.seq (.ops [⟨(some 3), none, (.box (.t 1))⟩, ⟨(some 4), none, (.mv (.c .nili))⟩]) (.seq (.ops [⟨(some 10), none, (.mv (.t 0))⟩, ⟨(some 11), none, (.load (some 7) (.t 3))⟩, ⟨(some 12), none, (.call (.c (.fn (.func 59) [])) [(.t 10), (.t 11)])⟩, ⟨(some 9), none, (.mv (.t 12))⟩, ⟨(some 13), none, (.extract (.t 9) 0)⟩, ⟨(some 14), none, (.extract (.t 9) 1)⟩, ⟨(some 5), none, (.mv (.t 13))⟩, ⟨(some 6), none, (.mv (.t 14))⟩]) (.seq (.seq (.ops [⟨(some 15), none, (.mv (.t 5))⟩, ⟨(some 16), none, (.len false (.t 15))⟩, ⟨(some 17), none, (.mv (.c (.t (.int .i64 0))))⟩]) (.block 0 (.loop (.seq (.ops [⟨(some 18), none, (.bin .lss (.t 17) (.t 16))⟩]) (.seq (.cond (.t 18) .skip (.exit 0)) (.seq (.block 1 (.seq (.ops [⟨(some 19), none, (.mv (.t 17))⟩, ⟨(some 20), none, (.indexAddr 11 (.t 15) (.t 17))⟩, ⟨(some 21), none, (.load (some 11) (.t 20))⟩, ⟨(some 8), none, (.new [(.t (.str [])), (.t (.int .i64 0)), (.t (.int .i64 0)), (.t (.int .i64 0)), .nils, (.t (.str [])), (.t (.int .i64 0)), (.t (.bool false)), (.t (.bool false)), (.t (.str [])), (.t (.str []))])⟩, ⟨(some 7), none, (.mv (.t 19))⟩, ⟨none, none, (.store 11 (.t 8) (.t 21))⟩]) (.block 2 (.seq (.ops [⟨(some 23), none, (.fieldAddr 7 (.t 8))⟩, ⟨(some 24), none, (.load none (.t 23))⟩, ⟨(some 25), none, (.mv (.t 24))⟩, ⟨(some 26), (some ⟨25, true⟩), (.fieldAddr 3 (.t 3))⟩, ⟨(some 27), (some ⟨25, true⟩), (.load none (.t 26))⟩, ⟨(some 28), (some ⟨25, true⟩), (.mv (.t 7))⟩, ⟨(some 29), (some ⟨25, true⟩), (.indexAddr 1 (.t 27) (.t 28))⟩, ⟨(some 30), (some ⟨25, true⟩), (.load none (.t 29))⟩, ⟨(some 31), (some ⟨25, true⟩), (.bin .eql (.t 30) (.c (.t (.str []))))⟩, ⟨(some 32), none, (.pick (.t 25) (.t 31) (.c (.t (.bool false))))⟩, ⟨(some 22), none, (.mv (.t 32))⟩]) (.cond (.t 22) (.seq (.ops [⟨(some 33), none, (.mv (.t 7))⟩, ⟨(some 34), none, (.build [(.t (.int .i64 0)), (.t (.int .i64 0))] [⟨0, ⟨1, (.c (.t (.int .i64 2)))⟩⟩, ⟨1, ⟨1, (.t 33)⟩⟩])⟩, ⟨(some 35), none, (.box (.t 34))⟩, ⟨(some 36), none, (.iface 133 (.t 35))⟩, ⟨(some 4), none, (.mv (.t 36))⟩]) .ret) (.seq (.drawn [(.mk 0 false ⟨(some 38), none, (.fieldAddr 3 (.t 3))⟩ []), (.mk 1 false ⟨(some 39), none, (.load none (.t 38))⟩ []), (.mk 2 false ⟨(some 40), none, (.mv (.t 7))⟩ []), (.mk 3 false ⟨(some 41), none, (.indexAddr 1 (.t 39) (.t 40))⟩ []), (.mk 4 false ⟨(some 42), none, (.load none (.t 41))⟩ []), (.mk 5 false ⟨(some 43), none, (.bin .neq (.t 42) (.c (.t (.str []))))⟩ []), (.mk 6 false ⟨(some 44), none, (.mv (.t 43))⟩ []), (.mk 7 false ⟨(some 45), (some ⟨44, true⟩), (.load (some 11) (.t 8))⟩ []), (.mk 8 false ⟨(some 46), (some ⟨44, true⟩), (.fieldAddr 3 (.t 3))⟩ []), (.mk 9 false ⟨(some 47), (some ⟨44, true⟩), (.load none (.t 46))⟩ []), (.mk 10 false ⟨(some 48), (some ⟨44, true⟩), (.mv (.t 7))⟩ []), (.mk 11 false ⟨(some 49), (some ⟨44, true⟩), (.indexAddr 1 (.t 47) (.t 48))⟩ []), (.mk 12 false ⟨(some 50), (some ⟨44, true⟩), (.load none (.t 49))⟩ []), (.mk 13 false ⟨(some 51), (some ⟨44, true⟩), (.call (.c (.fn (.func 88) [])) [(.t 45), (.t 50)])⟩ []), (.mk 14 false ⟨(some 52), (some ⟨44, true⟩), (.un .not (.t 51))⟩ []), (.mk 15 false ⟨(some 53), none, (.pick (.t 44) (.t 52) (.c (.t (.bool false))))⟩ []), (.mk 16 false ⟨(some 37), none, (.mv (.t 53))⟩ [])]) (.cond (.t 37) (.seq (.ops [⟨(some 54), none, (.mv (.t 7))⟩, ⟨(some 55), none, (.build [(.t (.int .i64 0)), (.t (.int .i64 0))] [⟨0, ⟨1, (.c (.t (.int .i64 3)))⟩⟩, ⟨1, ⟨1, (.t 54)⟩⟩])⟩, ⟨(some 56), none, (.box (.t 55))⟩, ⟨(some 57), none, (.iface 133 (.t 56))⟩, ⟨(some 4), none, (.mv (.t 57))⟩]) .ret) .skip))))))) (.ops [⟨(some 58), none, (.bin .add (.t 17) (.c (.t (.int .i64 1))))⟩, ⟨(some 17), none, (.mv (.t 58))⟩]))))))) (.seq (.ops [⟨(some 4), none, (.mv (.c .nili))⟩]) .ret))))
theorem k_impl_checkFields : comp Tryd.prog 59 (Tryd.f54.body.getD .skip) = some c_impl_checkFields := by kernel_rfl

theorem impl_checkFields (l : List GateShape) (hl : GateShape.OkS l) (o : GateObject) (ho : o.Ok) (hfo2 : (fieldsR l o).isSome = true) (σ : Store) : ACalls Tryd.prog 54 [.t (tGateShapeS l), .agg o.vs] σ (ErrR σ (fieldsC l o)) := by
  refine acalls_of Tryd.func54 (by decide +kernel) (code := Tryd.f54.body.getD .skip) (n := 59) (c := c_impl_checkFields) (rs := [(.tmp 4)]) rfl rfl k_impl_checkFields (by kernel_rfl) (by simp) (fun hσ => ?_)
  have hh : True := trivial
  have y1 := ho.Values
  simp -implicitDefEqProofs only [c_impl_checkFields, GateObject.vs, S0, S1, S2, S3, S4, S5, S6, S7, S8, S9, S10, S11, S12, S13, S14, S15, S16, S17, opv, opvs, eget, env0, setD, lenStr, lenSl, isNilP, isNilS, putAt, if_true, if_false, reduceCtorEq, Nat.reduceLeDiff, Nat.reduceEqDiff, Nat.reduceSub, Nat.reduceMul, Nat.reduceAdd]
  have c1 := impl_fieldsOf l hl.1 o
  simp only [GateObject.vs] at c1
  refine call_pure (c1 _) ?_
  rcases hf : fieldsR l o with _ | fs
  · rw [hf] at hfo2; cases hfo2
  obtain ⟨hfo, hfl⟩ := fields_ok hf hl
  simp -implicitDefEqProofs only [hf, fldV, Option.isSome_some, Bool.not_true, cond_t, cond_f, tGateFieldS, List.length_map, S0, S1, S2, S3, S4, S5, S6, S7, S8, S9, S10, S11, S12, S13, S14, S15, S16, S17, opv, opvs, eget, env0, setD, lenStr, lenSl, isNilP, isNilS, putAt, if_true, if_false, reduceCtorEq, Nat.reduceLeDiff, Nat.reduceEqDiff, Nat.reduceSub, Nat.reduceMul, Nat.reduceAdd]
  have y3 := hfo.1
  obtain ⟨z, hz⟩ : ∃ z, z = fs.zip o.Values := ⟨_, rfl⟩
  have hc : fieldsC l o = scanC z 0 := by rw [fieldsC, hf, hz]
  have hzl : z.length = fs.length := by rw [hz, List.length_zip]; omega
  refine loop_p [17, 3, 15, 16] [3, 15, 16] (fun k : Nat => [(17, .t (.int .i64 (k : Nat)))]) (fun k => k ≤ fs.length ∧ scanC (z.drop k) k = scanC z 0) (fun k => fs.length - k) 0 (by simp) ⟨Nat.zero_le _, rfl⟩ rfl ?_
  rintro k ⟨hk, hsc⟩
  simp -implicitDefEqProofs only [keep, List.length_map, tGateFieldS, S0, S1, S2, S3, S4, S5, S6, S7, S8, S9, S10, S11, S12, S13, S14, S15, S16, S17, opv, opvs, eget, env0, setD, lenStr, lenSl, isNilP, isNilS, putAt, if_true, if_false, reduceCtorEq, Nat.reduceLeDiff, Nat.reduceEqDiff, Nat.reduceSub, Nat.reduceMul, Nat.reduceAdd]
  refine cond_split (fun h1 => ?_) (fun h1 => ?_)
  · obtain ⟨x, hx, hlt⟩ := at_of h1
    obtain ⟨v, hv⟩ : ∃ v, o.Values[k]? = some v := ⟨o.Values[k], by simp⟩
    have hxo := hfo.2 x (mem_at hx)
    have hvo := y1.2 v (mem_at hv)
    have hzk : z[k]? = some (x, v) := by rw [hz]; exact zip_get hx hv
    have hst := scan_at hzk
    rw [hsc] at hst
    have more := i64_succ (show k < 4611686018427387904 by omega)
    have done : ∀ c : Int, c ≠ 0 → chkF x v = c → fieldsC l o = (c, (k : Int)) := fun c h0 h => by
      rw [h, if_neg h0] at hst
      rw [hc, hst]
    have on : chkF x v = 0 → scanC (z.drop (k + 1)) (k + 1) = scanC z 0 := fun h => by rw [h, if_pos rfl] at hst; exact hst.symm
    rcases he : (v == []) with _ | _
    · have hgf := impl_GateFits x hxo v hvo
      simp only [GateField.vs] at hgf
      rcases hg : fitsG x v with _ | _
      · have hdn := done 3 (by omega) (chk_not he hg)
        rcases hm : x.Must with _ | _ <;> rw [hm] at hgf
        · simp -implicitDefEqProofs only [hx, hv, GateField.ts, GateField.vs, tStr, more, nat_nn, Nat.zero_le, List.getElem?_map, Option.map_some, List.length_map, hm, he, cond_t, cond_f, Bool.not_false, Bool.not_true, S0, S1, S2, S3, S4, S5, S6, S7, S8, S9, S10, S11, S12, S13, S14, S15, S16, S17, opv, opvs, eget, env0, setD, lenStr, lenSl, isNilP, isNilS, putAt, if_true, if_false, reduceCtorEq, Nat.reduceLeDiff, Nat.reduceEqDiff, Nat.reduceSub, Nat.reduceMul, Nat.reduceAdd]
          refine call_pure (hgf _) ?_
          simp -implicitDefEqProofs only [hx, hv, GateField.ts, GateField.vs, tStr, more, nat_nn, Nat.zero_le, List.getElem?_map, Option.map_some, List.length_map, hm, he, hg, cond_t, cond_f, Bool.not_false, Bool.not_true, S0, S1, S2, S3, S4, S5, S6, S7, S8, S9, S10, S11, S12, S13, S14, S15, S16, S17, opv, opvs, eget, env0, setD, lenStr, lenSl, isNilP, isNilS, putAt, if_true, if_false, reduceCtorEq, Nat.reduceLeDiff, Nat.reduceEqDiff, Nat.reduceSub, Nat.reduceMul, Nat.reduceAdd]
          exact fin_err (.inr ⟨by rw [hdn]; simp, _, _, rfl, rfl, by rw [hdn]; simp⟩)
        · simp -implicitDefEqProofs only [hx, hv, GateField.ts, GateField.vs, tStr, more, nat_nn, Nat.zero_le, List.getElem?_map, Option.map_some, List.length_map, hm, he, cond_t, cond_f, Bool.not_false, Bool.not_true, S0, S1, S2, S3, S4, S5, S6, S7, S8, S9, S10, S11, S12, S13, S14, S15, S16, S17, opv, opvs, eget, env0, setD, lenStr, lenSl, isNilP, isNilS, putAt, if_true, if_false, reduceCtorEq, Nat.reduceLeDiff, Nat.reduceEqDiff, Nat.reduceSub, Nat.reduceMul, Nat.reduceAdd]
          refine call_pure (hgf _) ?_
          simp -implicitDefEqProofs only [hx, hv, GateField.ts, GateField.vs, tStr, more, nat_nn, Nat.zero_le, List.getElem?_map, Option.map_some, List.length_map, hm, he, hg, cond_t, cond_f, Bool.not_false, Bool.not_true, S0, S1, S2, S3, S4, S5, S6, S7, S8, S9, S10, S11, S12, S13, S14, S15, S16, S17, opv, opvs, eget, env0, setD, lenStr, lenSl, isNilP, isNilS, putAt, if_true, if_false, reduceCtorEq, Nat.reduceLeDiff, Nat.reduceEqDiff, Nat.reduceSub, Nat.reduceMul, Nat.reduceAdd]
          exact fin_err (.inr ⟨by rw [hdn]; simp, _, _, rfl, rfl, by rw [hdn]; simp⟩)
      · have hon := on (chk_fit he hg)
        rcases hm : x.Must with _ | _ <;> rw [hm] at hgf
        · simp -implicitDefEqProofs only [hx, hv, GateField.ts, GateField.vs, tStr, more, nat_nn, Nat.zero_le, List.getElem?_map, Option.map_some, List.length_map, hm, he, cond_t, cond_f, Bool.not_false, Bool.not_true, S0, S1, S2, S3, S4, S5, S6, S7, S8, S9, S10, S11, S12, S13, S14, S15, S16, S17, opv, opvs, eget, env0, setD, lenStr, lenSl, isNilP, isNilS, putAt, if_true, if_false, reduceCtorEq, Nat.reduceLeDiff, Nat.reduceEqDiff, Nat.reduceSub, Nat.reduceMul, Nat.reduceAdd]
          refine call_pure (hgf _) ?_
          simp -implicitDefEqProofs only [hx, hv, GateField.ts, GateField.vs, tStr, more, nat_nn, Nat.zero_le, List.getElem?_map, Option.map_some, List.length_map, hm, he, hg, cond_t, cond_f, Bool.not_false, Bool.not_true, S0, S1, S2, S3, S4, S5, S6, S7, S8, S9, S10, S11, S12, S13, S14, S15, S16, S17, opv, opvs, eget, env0, setD, lenStr, lenSl, isNilP, isNilS, putAt, if_true, if_false, reduceCtorEq, Nat.reduceLeDiff, Nat.reduceEqDiff, Nat.reduceSub, Nat.reduceMul, Nat.reduceAdd]
          first | exact lk_p0 (k + 1) (by simp) (by simp) (by omega) ⟨by omega, hon⟩ rfl | exact lk_p (k + 1) (by simp) (by simp) hσ rfl (by omega) ⟨by omega, hon⟩ (by simp [ltE, keep, eget, V.lt]) rfl | exact lk_pm (k + 1) (Nat.le_refl _) (by simp) hσ rfl rfl (by omega) ⟨by omega, hon⟩ (by simp [ltE, keep, eget, V.lt]) rfl
        · simp -implicitDefEqProofs only [hx, hv, GateField.ts, GateField.vs, tStr, more, nat_nn, Nat.zero_le, List.getElem?_map, Option.map_some, List.length_map, hm, he, cond_t, cond_f, Bool.not_false, Bool.not_true, S0, S1, S2, S3, S4, S5, S6, S7, S8, S9, S10, S11, S12, S13, S14, S15, S16, S17, opv, opvs, eget, env0, setD, lenStr, lenSl, isNilP, isNilS, putAt, if_true, if_false, reduceCtorEq, Nat.reduceLeDiff, Nat.reduceEqDiff, Nat.reduceSub, Nat.reduceMul, Nat.reduceAdd]
          refine call_pure (hgf _) ?_
          simp -implicitDefEqProofs only [hx, hv, GateField.ts, GateField.vs, tStr, more, nat_nn, Nat.zero_le, List.getElem?_map, Option.map_some, List.length_map, hm, he, hg, cond_t, cond_f, Bool.not_false, Bool.not_true, S0, S1, S2, S3, S4, S5, S6, S7, S8, S9, S10, S11, S12, S13, S14, S15, S16, S17, opv, opvs, eget, env0, setD, lenStr, lenSl, isNilP, isNilS, putAt, if_true, if_false, reduceCtorEq, Nat.reduceLeDiff, Nat.reduceEqDiff, Nat.reduceSub, Nat.reduceMul, Nat.reduceAdd]
          first | exact lk_p0 (k + 1) (by simp) (by simp) (by omega) ⟨by omega, hon⟩ rfl | exact lk_p (k + 1) (by simp) (by simp) hσ rfl (by omega) ⟨by omega, hon⟩ (by simp [ltE, keep, eget, V.lt]) rfl | exact lk_pm (k + 1) (Nat.le_refl _) (by simp) hσ rfl rfl (by omega) ⟨by omega, hon⟩ (by simp [ltE, keep, eget, V.lt]) rfl
    · rcases hm : x.Must with _ | _
      · have hon := on (chk_free he hm)
        simp -implicitDefEqProofs only [hx, hv, GateField.ts, GateField.vs, tStr, more, nat_nn, Nat.zero_le, List.getElem?_map, Option.map_some, List.length_map, hm, he, cond_t, cond_f, Bool.not_false, Bool.not_true, S0, S1, S2, S3, S4, S5, S6, S7, S8, S9, S10, S11, S12, S13, S14, S15, S16, S17, opv, opvs, eget, env0, setD, lenStr, lenSl, isNilP, isNilS, putAt, if_true, if_false, reduceCtorEq, Nat.reduceLeDiff, Nat.reduceEqDiff, Nat.reduceSub, Nat.reduceMul, Nat.reduceAdd]
        first | exact lk_p0 (k + 1) (by simp) (by simp) (by omega) ⟨by omega, hon⟩ rfl | exact lk_p (k + 1) (by simp) (by simp) hσ rfl (by omega) ⟨by omega, hon⟩ (by simp [ltE, keep, eget, V.lt]) rfl | exact lk_pm (k + 1) (Nat.le_refl _) (by simp) hσ rfl rfl (by omega) ⟨by omega, hon⟩ (by simp [ltE, keep, eget, V.lt]) rfl
      · have hdn := done 2 (by omega) (chk_must he hm)
        simp -implicitDefEqProofs only [hx, hv, GateField.ts, GateField.vs, tStr, more, nat_nn, Nat.zero_le, List.getElem?_map, Option.map_some, List.length_map, hm, he, cond_t, cond_f, Bool.not_false, Bool.not_true, S0, S1, S2, S3, S4, S5, S6, S7, S8, S9, S10, S11, S12, S13, S14, S15, S16, S17, opv, opvs, eget, env0, setD, lenStr, lenSl, isNilP, isNilS, putAt, if_true, if_false, reduceCtorEq, Nat.reduceLeDiff, Nat.reduceEqDiff, Nat.reduceSub, Nat.reduceMul, Nat.reduceAdd]
        exact fin_err (.inr ⟨by rw [hdn]; simp, _, _, rfl, rfl, by rw [hdn]; simp⟩)
  · have hkk := end_of h1 hk
    simp -implicitDefEqProofs only [S0, S1, S2, S3, S4, S5, S6, S7, S8, S9, S10, S11, S12, S13, S14, S15, S16, S17, opv, opvs, eget, env0, setD, lenStr, lenSl, isNilP, isNilS, putAt, if_true, if_false, reduceCtorEq, Nat.reduceLeDiff, Nat.reduceEqDiff, Nat.reduceSub, Nat.reduceMul, Nat.reduceAdd]
    rw [hkk, ← hzl, List.drop_length] at hsc
    refine fin_err (.inl ⟨by rw [hc, ← hsc]; rfl, rfl, _, rfl⟩)

end Go.Proofs.YtcjchimenfadkaaDoor.W

end


section
open Go Go.Ab
set_option maxHeartbeats 2000000
namespace Go.Proofs.YtcjchimenfadkaaDoor.W
theorem scan_zero : ∀ {l : List (GateField × List UInt8)} {k : Nat}, (scanC l k).1 = 0 → scanC l k = (0, 0)
  | [], _, _ => rfl
  | (f, v) :: l, k, h => by
    simp only [scanC] at h ⊢
    split at h
    · rename_i h0
      rw [if_pos h0]
      exact scan_zero h
    · rename_i h0
      exact (h0 h).elim
theorem fields_zero {l : List GateShape} {o : GateObject} (h : (fieldsC l o).1 = 0) : fieldsC l o = (0, 0) := by
  unfold fieldsC at h ⊢
  split at h
  · rename_i fs hf
    exact scan_zero h
  · rename_i hf
    rfl

def c_impl_GateCheck : C := (.seq (.ops [⟨(some 3), none, (.box (.t 1))⟩, ⟨(some 4), none, (.mv (.c (.t (.int .i64 0))))⟩, ⟨(some 5), none, (.mv (.c (.t (.int .i64 0))))⟩]) (.seq (.seq (.ops [⟨(some 9), none, (.lit none 1 2 [.nilf] [⟨0, (.c (.fn (.func 53) []))⟩, ⟨1, (.c (.fn (.func 54) []))⟩])⟩, ⟨(some 10), none, (.len false (.t 9))⟩, ⟨(some 11), none, (.mv (.c (.t (.int .i64 0))))⟩]) (.block 0 (.loop (.seq (.ops [⟨(some 12), none, (.bin .lss (.t 11) (.t 10))⟩]) (.seq (.cond (.t 12) .skip (.exit 0)) (.seq (.block 1 (.seq (.ops [⟨(some 13), none, (.indexAddr 1 (.t 9) (.t 11))⟩, ⟨(some 14), none, (.load none (.t 13))⟩, ⟨(some 7), none, (.mv (.t 14))⟩]) (.seq (.ops [⟨(some 15), none, (.mv (.t 7))⟩, ⟨(some 16), none, (.mv (.t 0))⟩, ⟨(some 17), none, (.load (some 7) (.t 3))⟩, ⟨(some 18), none, (.call (.t 15) [(.t 16), (.t 17)])⟩, ⟨(some 8), none, (.mv (.t 18))⟩]) (.seq (.ops [⟨(some 19), none, (.mv (.t 8))⟩, ⟨(some 20), none, (.eqI true (.t 19) (.c .nili))⟩]) (.cond (.t 20) (.seq (.ops [⟨(some 21), none, (.mv (.t 8))⟩, ⟨(some 22), none, (.call (.c (.fn (.func 55) [])) [(.t 21)])⟩, ⟨(some 23), none, (.extract (.t 22) 0)⟩, ⟨(some 24), none, (.extract (.t 22) 1)⟩, ⟨(some 4), none, (.mv (.t 23))⟩, ⟨(some 5), none, (.mv (.t 24))⟩]) .ret) .skip))))) (.ops [⟨(some 25), none, (.bin .add (.t 11) (.c (.t (.int .i64 1))))⟩, ⟨(some 11), none, (.mv (.t 25))⟩]))))))) (.seq (.ops [⟨(some 4), none, (.mv (.c (.t (.int .i64 0))))⟩, ⟨(some 5), none, (.mv (.c (.t (.int .i64 0))))⟩]) .ret)))
theorem k_impl_GateCheck : comp Tryd.prog 26 (Tryd.f24.body.getD .skip) = some c_impl_GateCheck := by kernel_rfl

theorem impl_GateCheck (l : List GateShape) (hl : GateShape.OkS l) (o : GateObject) (ho : o.Ok)  (σ : Store) (hg : ErrAt σ) : ACalls Tryd.prog 24 [.t (tGateShapeS l), .agg (o.vs)] σ fun rr σ' => rr = checkV l o ∧ σ' = σ := by
  refine acalls_of Tryd.func24 (by decide +kernel) (code := Tryd.f24.body.getD .skip) (n := 26) (c := c_impl_GateCheck) (rs := [(.tmp 4), (.tmp 5)]) rfl rfl k_impl_GateCheck (by kernel_rfl) (by simp) (fun hσ => ?_)
  have hh : True := trivial
  have fin : ∀ {u : List V} {τ : Store}, mkRes u = checkV l o → (mkRes u).lt σ.length = true → retV σ.length (fun rr σ' => rr = checkV l o ∧ σ' = σ) (σ ++ τ) (some u) := fun h h2 => ret_same rfl hσ h2 ⟨h, rfl⟩
  have fin0 : ∀ {u : List V}, mkRes u = checkV l o → retV σ.length (fun rr σ' => rr = checkV l o ∧ σ' = σ) σ (some u) := fun h => ret_same0 rfl ⟨h, rfl⟩
  simp -implicitDefEqProofs only [c_impl_GateCheck, GateObject.vs, S0, S1, S2, S3, S4, S5, S6, S7, S8, S9, S10, S11, S12, S13, S14, S15, S16, S17, opv, opvs, eget, env0, setD, lenStr, lenSl, isNilP, isNilS, putAt, if_true, if_false, reduceCtorEq, Nat.reduceLeDiff, Nat.reduceEqDiff, Nat.reduceSub, Nat.reduceMul, Nat.reduceAdd]
  refine ⟨by omega, by omega, true, ?_⟩
  simp -implicitDefEqProofs only [S0, S1, S2, S3, S4, S5, S6, S7, S8, S9, S10, S11, S12, S13, S14, S15, S16, S17, opv, opvs, eget, env0, setD, lenStr, lenSl, isNilP, isNilS, putAt, if_true, if_false, reduceCtorEq, Nat.reduceLeDiff, Nat.reduceEqDiff, Nat.reduceSub, Nat.reduceMul, Nat.reduceAdd]
  have c1 := impl_checkForm l hl o ho
  have c2 := impl_checkFields l hl o ho
  simp only [GateObject.vs] at c1 c2
  refine loop_p [11, 0, 3, 9, 10] [0, 3, 9, 10] (fun k : Nat => [(11, .t (.int .i64 (k : Nat)))]) (fun k => k ≤ 2 ∧ (1 ≤ k → formC l o = true) ∧ (k = 2 → fieldsC l o = (0, 0))) (fun k => 2 - k) 0 (by simp) ⟨by omega, by omega, by omega⟩ rfl ?_
  rintro k ⟨hk, hk1, hk2⟩
  simp -implicitDefEqProofs only [keep, List.length_map, S0, S1, S2, S3, S4, S5, S6, S7, S8, S9, S10, S11, S12, S13, S14, S15, S16, S17, opv, opvs, eget, env0, setD, lenStr, lenSl, isNilP, isNilS, putAt, if_true, if_false, reduceCtorEq, Nat.reduceLeDiff, Nat.reduceEqDiff, Nat.reduceSub, Nat.reduceMul, Nat.reduceAdd]
  rcases (by omega : k = 0 ∨ k = 1 ∨ k = 2) with rfl | rfl | rfl
  · refine cond_split (fun h1 => ?_) (fun h1 => ?_)
    rotate_left
    · simp at h1
    simp -implicitDefEqProofs only [nat_nn, Nat.zero_le, List.getElem?_map, Option.map_some, List.length_map, S0, S1, S2, S3, S4, S5, S6, S7, S8, S9, S10, S11, S12, S13, S14, S15, S16, S17, opv, opvs, eget, env0, setD, lenStr, lenSl, isNilP, isNilS, putAt, if_true, if_false, reduceCtorEq, Nat.reduceLeDiff, Nat.reduceEqDiff, Nat.reduceSub, Nat.reduceMul, Nat.reduceAdd]
    refine ⟨by omega, call_by (by rw [List.append_nil]; exact c1 _) ?_⟩
    rintro r s (⟨h0, rfl, τ, rfl⟩ | ⟨h0, τ, id, rfl, rfl, hid⟩)
    · have hfc : formC l o = true := by
        rcases hq : formC l o with _ | _
        · rw [formE, hq] at h0; simp at h0
        · rfl
      simp -implicitDefEqProofs only [cond_t, cond_f, S0, S1, S2, S3, S4, S5, S6, S7, S8, S9, S10, S11, S12, S13, S14, S15, S16, S17, opv, opvs, eget, env0, setD, lenStr, lenSl, isNilP, isNilS, putAt, if_true, if_false, reduceCtorEq, Nat.reduceLeDiff, Nat.reduceEqDiff, Nat.reduceSub, Nat.reduceMul, Nat.reduceAdd]
      refine lk_pm 1 (Nat.le_refl _) (by simp) hσ rfl rfl (by omega) ⟨by omega, fun _ => hfc, by omega⟩ (by simp [ltE, keep, eget, V.lt]) rfl
    · have hfc : formC l o = false := by
        rcases hq : formC l o with _ | _
        · rfl
        · rw [formE, hq] at h0; simp at h0
      have he : formE l o = (1, 0) := by rw [formE, hfc]; rfl
      rw [he] at hid
      simp only [List.append_assoc, List.cons_append, List.nil_append] at hid
      simp -implicitDefEqProofs only [cond_t, cond_f, S0, S1, S2, S3, S4, S5, S6, S7, S8, S9, S10, S11, S12, S13, S14, S15, S16, S17, opv, opvs, eget, env0, setD, lenStr, lenSl, isNilP, isNilS, putAt, if_true, if_false, reduceCtorEq, Nat.reduceLeDiff, Nat.reduceEqDiff, Nat.reduceSub, Nat.reduceMul, Nat.reduceAdd]
      refine call_pure (impl_told 1 0 id _ (by repeat' (first | exact hg | refine VarAt.app ?_ _)) hid) ?_
      simp -implicitDefEqProofs only [S0, S1, S2, S3, S4, S5, S6, S7, S8, S9, S10, S11, S12, S13, S14, S15, S16, S17, opv, opvs, eget, env0, setD, lenStr, lenSl, isNilP, isNilS, putAt, if_true, if_false, reduceCtorEq, Nat.reduceLeDiff, Nat.reduceEqDiff, Nat.reduceSub, Nat.reduceMul, Nat.reduceAdd]
      have hn : checkV l o = .tup [.t (.int .i64 1), .t (.int .i64 0)] := by rw [checkV, checkR, hfc]; rfl
      (with_reducible refine fin ?_ ?_); rotate_left; exact rfl; rw [hn]; rfl
  · have hfc := hk1 (by omega)
    refine cond_split (fun h1 => ?_) (fun h1 => ?_)
    rotate_left
    · simp at h1
    simp -implicitDefEqProofs only [nat_nn, Nat.zero_le, List.getElem?_map, Option.map_some, List.length_map, S0, S1, S2, S3, S4, S5, S6, S7, S8, S9, S10, S11, S12, S13, S14, S15, S16, S17, opv, opvs, eget, env0, setD, lenStr, lenSl, isNilP, isNilS, putAt, if_true, if_false, reduceCtorEq, Nat.reduceLeDiff, Nat.reduceEqDiff, Nat.reduceSub, Nat.reduceMul, Nat.reduceAdd]
    refine ⟨by omega, call_by (by rw [List.append_nil]; exact c2 (by simp only [formC, Bool.and_eq_true] at hfc; exact hfc.1.1) _) ?_⟩
    rintro r s (⟨h0, rfl, τ, rfl⟩ | ⟨h0, τ, id, rfl, rfl, hid⟩)
    · simp -implicitDefEqProofs only [cond_t, cond_f, S0, S1, S2, S3, S4, S5, S6, S7, S8, S9, S10, S11, S12, S13, S14, S15, S16, S17, opv, opvs, eget, env0, setD, lenStr, lenSl, isNilP, isNilS, putAt, if_true, if_false, reduceCtorEq, Nat.reduceLeDiff, Nat.reduceEqDiff, Nat.reduceSub, Nat.reduceMul, Nat.reduceAdd]
      refine lk_pm 2 (Nat.le_refl _) (by simp) hσ rfl rfl (by omega) ⟨by omega, fun _ => hfc, fun _ => fields_zero h0⟩ (by simp [ltE, keep, eget, V.lt]) rfl
    · simp only [List.append_assoc, List.cons_append, List.nil_append] at hid
      simp -implicitDefEqProofs only [cond_t, cond_f, S0, S1, S2, S3, S4, S5, S6, S7, S8, S9, S10, S11, S12, S13, S14, S15, S16, S17, opv, opvs, eget, env0, setD, lenStr, lenSl, isNilP, isNilS, putAt, if_true, if_false, reduceCtorEq, Nat.reduceLeDiff, Nat.reduceEqDiff, Nat.reduceSub, Nat.reduceMul, Nat.reduceAdd]
      refine call_pure (impl_told _ _ id _ (by repeat' (first | exact hg | refine VarAt.app ?_ _)) hid) ?_
      simp -implicitDefEqProofs only [S0, S1, S2, S3, S4, S5, S6, S7, S8, S9, S10, S11, S12, S13, S14, S15, S16, S17, opv, opvs, eget, env0, setD, lenStr, lenSl, isNilP, isNilS, putAt, if_true, if_false, reduceCtorEq, Nat.reduceLeDiff, Nat.reduceEqDiff, Nat.reduceSub, Nat.reduceMul, Nat.reduceAdd]
      have hn : checkV l o = .tup [.t (.int .i64 (fieldsC l o).1), .t (.int .i64 (fieldsC l o).2)] := by rw [checkV, checkR, hfc]; rfl
      (with_reducible refine fin ?_ ?_); rotate_left; exact rfl; rw [hn]; rfl
  · have hfc := hk1 (by omega)
    have hz := hk2 rfl
    have hn : checkV l o = .tup [.t (.int .i64 0), .t (.int .i64 0)] := by rw [checkV, checkR, hfc]; simp only [if_true, hz]
    refine cond_split (fun h1 => ?_) (fun h1 => ?_)
    · simp at h1
    simp -implicitDefEqProofs only [nat_nn, Nat.zero_le, List.getElem?_map, Option.map_some, List.length_map, S0, S1, S2, S3, S4, S5, S6, S7, S8, S9, S10, S11, S12, S13, S14, S15, S16, S17, opv, opvs, eget, env0, setD, lenStr, lenSl, isNilP, isNilS, putAt, if_true, if_false, reduceCtorEq, Nat.reduceLeDiff, Nat.reduceEqDiff, Nat.reduceSub, Nat.reduceMul, Nat.reduceAdd]
    (with_reducible refine fin ?_ ?_); rotate_left; exact rfl; rw [hn]; rfl

end Go.Proofs.YtcjchimenfadkaaDoor.W

end
