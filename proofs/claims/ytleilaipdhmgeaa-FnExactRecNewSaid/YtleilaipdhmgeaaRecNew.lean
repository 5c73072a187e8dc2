/- RecNew of the reference and of the program. Conditions: none. -/
import Derived.Test.YtleilaipdhmgeaaRecOk
import Derived.Test.YtleilaipdhmgeaaMarkRec2
import Derived.Test.YtleilaipdhmgeaaAbW
import Derived.KernelRfl
set_option linter.unusedSimpArgs false
set_option linter.unusedVariables false
set_option linter.defProp false
open Go Go.Ab
set_option maxHeartbeats 2000000
namespace Go.Proofs.Ytleilaipdhmgeaa.W
def newVs (n o : Int) (up : Bool) : List V := [.t (.int .i64 n), .t (.int .i64 o), .t (.bool up), .t (.int .i64 0), .t (.int .i64 0), .nils, .t (.int .i64 0), .t (.int .i64 0), .nils, .nils, .nils, .t (.bool false), .t (.bool false), .t (.int .i64 0), .nils, .nils, .nils, .t (.int .i64 0)]
def newTs (n o : Int) (up : Bool) : List T := [.int .i64 n, .int .i64 o, .bool up, .int .i64 0, .int .i64 0, .lst 2 [], .int .i64 0, .int .i64 0, .lst 2 [], .lst 8 [], .lst 1 [], .bool false, .bool false, .int .i64 0, .lst 1 [], .lst 2 [], .lst 2 [], .int .i64 0]
def newC (n o : Int) : Bool := wi o 1 5 && wi n 1 o
def newRes (n o : Int) : List V := if newC n o then newVs n o true else newVs 0 0 false
theorem own_nils {σ : Store} {n : Nat} (h : 0 < n) : Own σ (.lst n []) .nils [] := by simp [Own, h]
theorem own_new (σ : Store) (n o : Int) (up : Bool) : OwnL σ (newTs n o up) (newVs n o up) [] :=
  (.int (.int (.bool (.int (.int (.lst (is := []) (own_nils (by omega)) (.int (.int (.lst (is := []) (own_nils (by omega)) (.lst (is := []) (own_nils (by omega)) (.lst (is := []) (own_nils (by omega)) (.bool (.bool (.int (.lst (is := []) (own_nils (by omega)) (.lst (is := []) (own_nils (by omega)) (.lst (is := []) (own_nils (by omega)) (.int .nil0))))))))))))))))))
theorem is_nil {n : Nat} {cs : List Sh} : T.is (.sl n cs) (.lst n []) := by simp only [T.is]; exact ⟨[], rfl, by simp, by simp⟩
theorem wf0 : (Lit.int .i64 0).wf = true := by decide
theorem is_new {n o : Int} {up : Bool} (hn : (Lit.int .i64 n).wf = true) (ho : (Lit.int .i64 o).wf = true) : T.isL shRecorder (newTs n o up) :=
  mkRecorder hn ho wf0 wf0 is_nil wf0 wf0 is_nil is_nil is_nil wf0 is_nil is_nil is_nil wf0
theorem size_new (n o : Int) (up : Bool) : T.sizeL (newTs n o up) = 0 := by
  unfold newTs
  rw [sizeRecorder]
  simp only [size_lst, sizeR_nil, List.length_nil]
theorem mk_new (k : Nat) (n o : Int) (up : Bool) : T.mkVL markTxt k (newTs n o up) = (newTs n o up, k) := by
  simp only [newTs, mkVL_cons, mkVL_nil, mkV_int, mkV_bool, mkV_sl (cs := []) (is_nil), mkc_lst, mkR_nil]

def c_spec_RecNew : C := (.seq (.ops [⟨(some 4), none, (.new [(.t (.int .i64 0)), (.t (.int .i64 0)), (.t (.bool false)), (.t (.int .i64 0)), (.t (.int .i64 0)), .nils, (.t (.int .i64 0)), (.t (.int .i64 0)), .nils, .nils, .nils, (.t (.bool false)), (.t (.bool false)), (.t (.int .i64 0)), .nils, .nils, .nils, (.t (.int .i64 0))])⟩]) (.seq (.seq (.ops [⟨(some 5), none, (.mv (.t 1))⟩, ⟨(some 6), none, (.call (.c (.fn (.func 79) [])) [(.t 5), (.c (.t (.int .i64 1))), (.c (.t (.int .i64 5)))])⟩, ⟨(some 7), none, (.un .not (.t 6))⟩, ⟨(some 8), none, (.mv (.t 7))⟩, ⟨(some 9), (some ⟨8, false⟩), (.mv (.t 0))⟩, ⟨(some 10), (some ⟨8, false⟩), (.mv (.t 1))⟩, ⟨(some 11), (some ⟨8, false⟩), (.call (.c (.fn (.func 79) [])) [(.t 9), (.c (.t (.int .i64 1))), (.t 10)])⟩, ⟨(some 12), (some ⟨8, false⟩), (.un .not (.t 11))⟩, ⟨(some 13), none, (.pick (.t 8) (.c (.t (.bool true))) (.t 12))⟩]) (.cond (.t 13) (.seq (.ops [⟨(some 14), none, (.build [(.t (.int .i64 0)), (.t (.int .i64 0)), (.t (.bool false)), (.t (.int .i64 0)), (.t (.int .i64 0)), .nils, (.t (.int .i64 0)), (.t (.int .i64 0)), .nils, .nils, .nils, (.t (.bool false)), (.t (.bool false)), (.t (.int .i64 0)), .nils, .nils, .nils, (.t (.int .i64 0))] [])⟩, ⟨none, none, (.store 18 (.t 4) (.t 14))⟩]) .ret) .skip)) (.seq (.ops [⟨(some 15), none, (.mv (.t 0))⟩, ⟨(some 16), none, (.mv (.t 1))⟩, ⟨(some 17), none, (.build [(.t (.int .i64 0)), (.t (.int .i64 0)), (.t (.bool false)), (.t (.int .i64 0)), (.t (.int .i64 0)), .nils, (.t (.int .i64 0)), (.t (.int .i64 0)), .nils, .nils, .nils, (.t (.bool false)), (.t (.bool false)), (.t (.int .i64 0)), .nils, .nils, .nils, (.t (.int .i64 0))] [⟨0, ⟨1, (.t 15)⟩⟩, ⟨1, ⟨1, (.t 16)⟩⟩, ⟨2, ⟨1, (.c (.t (.bool true)))⟩⟩])⟩, ⟨none, none, (.store 18 (.t 4) (.t 17))⟩]) .ret)))
theorem k_spec_RecNew : comp Try.prog 18 (Try.f38.body.getD .skip) = some c_spec_RecNew := by kernel_rfl

theorem spec_RecNew (n : Int) (hn : i64r n) (o : Int) (ho : i64r o)  (σ : Store) : ACalls Try.prog 38 [.t (.int .i64 (n)), .t (.int .i64 (o))] σ fun rr σ' => rr = .agg (newRes n o) ∧ σ' = σ := by
  refine acalls_of Try.func38 (by decide +kernel) (code := Try.f38.body.getD .skip) (n := 18) (c := c_spec_RecNew) (rs := [(.cell 4 (some 18))]) rfl rfl k_spec_RecNew (by kernel_rfl) (by simp) (fun hσ => ?_)
  have hh : True := trivial
  have fin : ∀ {u : V} {τ : Store}, u = .agg (newRes n o) → V.lt σ.length (.agg (newRes n o)) = true → retV σ.length (fun rr σ' => rr = .agg (newRes n o) ∧ σ' = σ) (σ ++ τ) (some [u]) := fun h h2 => ret_same rfl hσ (by simp only [mkRes]; rw [h]; exact h2) ⟨h, rfl⟩
  have fin0 : ∀ {u : V}, u = .agg (newRes n o) → retV σ.length (fun rr σ' => rr = .agg (newRes n o) ∧ σ' = σ) σ (some [u]) := fun h => ret_same0 rfl ⟨h, rfl⟩
  simp -implicitDefEqProofs only [c_spec_RecNew, S0, S1, S2, S3, S4, S5, S6, S7, S8, S9, S10, S11, S12, opv, opvs, eget, env0, setD, lenStr, lenSl, isNilP, isNilS, putAt, if_true, if_false, reduceCtorEq, Nat.reduceLeDiff, Nat.reduceEqDiff, Nat.reduceSub, Nat.reduceMul, Nat.reduceAdd]
  repeat' (first
    | ((with_reducible refine cond_known (fun h => ?_) (fun h => ?_)) <;> (replace hh := And.intro h hh; clear h; simp -implicitDefEqProofs only [hh, cond_t, cond_f, S0, S1, S2, S3, S4, S5, S6, S7, S8, S9, S10, S11, S12, opv, opvs, eget, env0, setD, lenStr, lenSl, isNilP, isNilS, putAt, if_true, if_false, reduceCtorEq, Nat.reduceLeDiff, Nat.reduceEqDiff, Nat.reduceSub, Nat.reduceMul, Nat.reduceAdd]))
    | ((with_reducible refine call_pure (spec_l21In _ _ _ _) ?_); simp -implicitDefEqProofs only [hh, cond_t, cond_f, S0, S1, S2, S3, S4, S5, S6, S7, S8, S9, S10, S11, S12, opv, opvs, eget, env0, setD, lenStr, lenSl, isNilP, isNilS, putAt, if_true, if_false, reduceCtorEq, Nat.reduceLeDiff, Nat.reduceEqDiff, Nat.reduceSub, Nat.reduceMul, Nat.reduceAdd])
    | ((with_reducible refine fin ?_ ?_); rotate_left; (simp only [newRes]; split <;> rfl); (try simp only [Known] at hh); (have hc : newC n o = newC n o := rfl); first | (rw [show newRes n o = newVs n o true by unfold newRes; rw [if_pos (by grind [newC])]]; rfl) | (rw [show newRes n o = newVs 0 0 false by unfold newRes; rw [if_neg (by grind [newC])]]; rfl)))

def c_impl_RecNew : C := (.seq (.ops [⟨(some 4), none, (.new [(.t (.int .i64 0)), (.t (.int .i64 0)), (.t (.bool false)), (.t (.int .i64 0)), (.t (.int .i64 0)), .nils, (.t (.int .i64 0)), (.t (.int .i64 0)), .nils, .nils, .nils, (.t (.bool false)), (.t (.bool false)), (.t (.int .i64 0)), .nils, .nils, .nils, (.t (.int .i64 0))])⟩]) (.seq (.seq (.ops [⟨(some 5), none, (.mv (.t 1))⟩, ⟨(some 6), none, (.call (.c (.fn (.func 80) [])) [(.t 5), (.c (.t (.int .i64 1))), (.c (.t (.int .i64 5)))])⟩, ⟨(some 7), none, (.un .not (.t 6))⟩, ⟨(some 8), none, (.mv (.t 7))⟩, ⟨(some 9), (some ⟨8, false⟩), (.mv (.t 0))⟩, ⟨(some 10), (some ⟨8, false⟩), (.mv (.t 1))⟩, ⟨(some 11), (some ⟨8, false⟩), (.call (.c (.fn (.func 80) [])) [(.t 9), (.c (.t (.int .i64 1))), (.t 10)])⟩, ⟨(some 12), (some ⟨8, false⟩), (.un .not (.t 11))⟩, ⟨(some 13), none, (.pick (.t 8) (.c (.t (.bool true))) (.t 12))⟩]) (.cond (.t 13) (.seq (.ops [⟨(some 14), none, (.build [(.t (.int .i64 0)), (.t (.int .i64 0)), (.t (.bool false)), (.t (.int .i64 0)), (.t (.int .i64 0)), .nils, (.t (.int .i64 0)), (.t (.int .i64 0)), .nils, .nils, .nils, (.t (.bool false)), (.t (.bool false)), (.t (.int .i64 0)), .nils, .nils, .nils, (.t (.int .i64 0))] [])⟩, ⟨none, none, (.store 18 (.t 4) (.t 14))⟩]) .ret) .skip)) (.seq (.ops [⟨(some 15), none, (.mv (.t 0))⟩, ⟨(some 16), none, (.mv (.t 1))⟩, ⟨(some 17), none, (.build [(.t (.int .i64 0)), (.t (.int .i64 0)), (.t (.bool false)), (.t (.int .i64 0)), (.t (.int .i64 0)), .nils, (.t (.int .i64 0)), (.t (.int .i64 0)), .nils, .nils, .nils, (.t (.bool false)), (.t (.bool false)), (.t (.int .i64 0)), .nils, .nils, .nils, (.t (.int .i64 0))] [⟨0, ⟨1, (.t 15)⟩⟩, ⟨1, ⟨1, (.t 16)⟩⟩, ⟨2, ⟨1, (.c (.t (.bool true)))⟩⟩])⟩, ⟨none, none, (.store 18 (.t 4) (.t 17))⟩]) .ret)))
theorem k_impl_RecNew : comp Try.prog 18 (Try.f39.body.getD .skip) = some c_impl_RecNew := by kernel_rfl

theorem impl_RecNew (n : Int) (hn : i64r n) (o : Int) (ho : i64r o)  (σ : Store) : ACalls Try.prog 39 [.t (.int .i64 (n)), .t (.int .i64 (o))] σ fun rr σ' => rr = .agg (newRes n o) ∧ σ' = σ := by
  refine acalls_of Try.func39 (by decide +kernel) (code := Try.f39.body.getD .skip) (n := 18) (c := c_impl_RecNew) (rs := [(.cell 4 (some 18))]) rfl rfl k_impl_RecNew (by kernel_rfl) (by simp) (fun hσ => ?_)
  have hh : True := trivial
  have fin : ∀ {u : V} {τ : Store}, u = .agg (newRes n o) → V.lt σ.length (.agg (newRes n o)) = true → retV σ.length (fun rr σ' => rr = .agg (newRes n o) ∧ σ' = σ) (σ ++ τ) (some [u]) := fun h h2 => ret_same rfl hσ (by simp only [mkRes]; rw [h]; exact h2) ⟨h, rfl⟩
  have fin0 : ∀ {u : V}, u = .agg (newRes n o) → retV σ.length (fun rr σ' => rr = .agg (newRes n o) ∧ σ' = σ) σ (some [u]) := fun h => ret_same0 rfl ⟨h, rfl⟩
  simp -implicitDefEqProofs only [c_impl_RecNew, S0, S1, S2, S3, S4, S5, S6, S7, S8, S9, S10, S11, S12, opv, opvs, eget, env0, setD, lenStr, lenSl, isNilP, isNilS, putAt, if_true, if_false, reduceCtorEq, Nat.reduceLeDiff, Nat.reduceEqDiff, Nat.reduceSub, Nat.reduceMul, Nat.reduceAdd]
  repeat' (first
    | ((with_reducible refine cond_known (fun h => ?_) (fun h => ?_)) <;> (replace hh := And.intro h hh; clear h; simp -implicitDefEqProofs only [hh, cond_t, cond_f, S0, S1, S2, S3, S4, S5, S6, S7, S8, S9, S10, S11, S12, opv, opvs, eget, env0, setD, lenStr, lenSl, isNilP, isNilS, putAt, if_true, if_false, reduceCtorEq, Nat.reduceLeDiff, Nat.reduceEqDiff, Nat.reduceSub, Nat.reduceMul, Nat.reduceAdd]))
    | ((with_reducible refine call_pure (impl_within_rec _ _ _ _) ?_); simp -implicitDefEqProofs only [hh, cond_t, cond_f, S0, S1, S2, S3, S4, S5, S6, S7, S8, S9, S10, S11, S12, opv, opvs, eget, env0, setD, lenStr, lenSl, isNilP, isNilS, putAt, if_true, if_false, reduceCtorEq, Nat.reduceLeDiff, Nat.reduceEqDiff, Nat.reduceSub, Nat.reduceMul, Nat.reduceAdd])
    | ((with_reducible refine fin ?_ ?_); rotate_left; (simp only [newRes]; split <;> rfl); (try simp only [Known] at hh); (have hc : newC n o = newC n o := rfl); first | (rw [show newRes n o = newVs n o true by unfold newRes; rw [if_pos (by grind [newC])]]; rfl) | (rw [show newRes n o = newVs 0 0 false by unfold newRes; rw [if_neg (by grind [newC])]]; rfl)))

end Go.Proofs.Ytleilaipdhmgeaa.W
