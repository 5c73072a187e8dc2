/- RecNew of the reference and of the program. Conditions: none. -/
/- RecNewWorld of the reference and of the program. Conditions: none. -/
import Derived.Test.YtleilaipdhmgeaaRecOk
import Derived.Test.YtleilaipdhmgeaaMarkRec3
import Derived.Test.YtleilaipdhmgeaaAb4
import Derived.KernelRfl
import Derived.Test.YtleilaipdhmgeaaTypesRec
set_option linter.unusedSimpArgs false
set_option linter.unusedVariables false
set_option linter.defProp false

section
open Go Go.Ab
set_option maxHeartbeats 2000000
namespace Go.Proofs.Ytleilaipdhmgeaa.W
def newVs (n o : Int) (up : Bool) : List V := [.t (.int .i64 n), .t (.int .i64 o), .t (.bool up), .t (.int .i64 0), .t (.int .i64 0), .nils, .t (.int .i64 0), .t (.int .i64 0), .nils, .nils, .nils, .t (.bool false), .t (.bool false), .t (.int .i64 0), .nils, .nils, .nils, .t (.int .i64 0)]
def newTs (n o : Int) (up : Bool) : List T := [.int .i64 n, .int .i64 o, .bool up, .int .i64 0, .int .i64 0, .lst 2 [], .int .i64 0, .int .i64 0, .lst 2 [], .lst 8 [], .lst 1 [], .bool false, .bool false, .int .i64 0, .lst 1 [], .lst 2 [], .lst 2 [], .int .i64 0]
def newC (n o : Int) : Bool := wi o 1 5 && wi n 1 o
def newRes (n o : Int) : List V := if newC n o then newVs n o true else newVs 0 0 false
theorem own_nils {σ : Store} {n : Nat} (h : 0 < n) : Own σ (.lst n []) .nils [] := by simp [Own, h]
theorem own_new (σ : Store) (n o : Int) (up : Bool) : OwnL σ (newTs n o up) (newVs n o up) [] :=
  (.int (.int (.bool (.int (.int (.lst (is := []) (own_nils (by omega)) (.int (.int (.lst (is := []) (own_nils (by omega)) (.lst (is := []) (own_nils (by omega)) (.lst (is := []) (own_nils (by omega)) (.bool (.bool (.int (.lst (is := []) (own_nils (by omega)) (.lst (is := []) (own_nils (by omega)) (.lst (is := []) (own_nils (by omega)) (.int .nil0))))))))))))))))))
theorem is_nil {n : Nat} {cs : List Sh} : T.is (.sl n cs) (.lst n []) := by simp only [T.is]; exact ⟨[], rfl, by simp, by simp⟩
theorem wf0 : (Lit.int .i64 0).wf = true := by decide
theorem is_new {n o : Int} {up : Bool} (hn : (Lit.int .i64 n).wf = true) (ho : (Lit.int .i64 o).wf = true) : T.isL shRecorder (newTs n o up) :=
  mkRecorder hn ho wf0 wf0 is_nil wf0 wf0 is_nil is_nil is_nil wf0 is_nil is_nil is_nil wf0
theorem size_new (n o : Int) (up : Bool) : T.sizeL (newTs n o up) = 0 := by
  unfold newTs
  rw [sizeRecorder]
  simp only [size_lst, sizeR_nil, List.length_nil]
theorem mk_new (k : Nat) (n o : Int) (up : Bool) : T.mkVL markTxt k (newTs n o up) = (newTs n o up, k) := by
  simp only [newTs, mkVL_cons, mkVL_nil, mkV_int, mkV_bool, mkV_sl (cs := []) (is_nil), mkc_lst, mkR_nil]

def c_spec_RecNew : C := (.seq (.ops [⟨(some 4), none, (.new [(.t (.int .i64 0)), (.t (.int .i64 0)), (.t (.bool false)), (.t (.int .i64 0)), (.t (.int .i64 0)), .nils, (.t (.int .i64 0)), (.t (.int .i64 0)), .nils, .nils, .nils, (.t (.bool false)), (.t (.bool false)), (.t (.int .i64 0)), .nils, .nils, .nils, (.t (.int .i64 0))])⟩]) (.seq (.seq (.ops [⟨(some 5), none, (.mv (.t 1))⟩, ⟨(some 6), none, (.call (.c (.fn (.func 79) [])) [(.t 5), (.c (.t (.int .i64 1))), (.c (.t (.int .i64 5)))])⟩, ⟨(some 7), none, (.un .not (.t 6))⟩, ⟨(some 8), none, (.mv (.t 7))⟩, ⟨(some 9), (some ⟨8, false⟩), (.mv (.t 0))⟩, ⟨(some 10), (some ⟨8, false⟩), (.mv (.t 1))⟩, ⟨(some 11), (some ⟨8, false⟩), (.call (.c (.fn (.func 79) [])) [(.t 9), (.c (.t (.int .i64 1))), (.t 10)])⟩, ⟨(some 12), (some ⟨8, false⟩), (.un .not (.t 11))⟩, ⟨(some 13), none, (.pick (.t 8) (.c (.t (.bool true))) (.t 12))⟩]) (.cond (.t 13) (.seq (.ops [⟨(some 14), none, (.build [(.t (.int .i64 0)), (.t (.int .i64 0)), (.t (.bool false)), (.t (.int .i64 0)), (.t (.int .i64 0)), .nils, (.t (.int .i64 0)), (.t (.int .i64 0)), .nils, .nils, .nils, (.t (.bool false)), (.t (.bool false)), (.t (.int .i64 0)), .nils, .nils, .nils, (.t (.int .i64 0))] [])⟩, ⟨none, none, (.store 18 (.t 4) (.t 14))⟩]) .ret) .skip)) (.seq (.ops [⟨(some 15), none, (.mv (.t 0))⟩, ⟨(some 16), none, (.mv (.t 1))⟩, ⟨(some 17), none, (.build [(.t (.int .i64 0)), (.t (.int .i64 0)), (.t (.bool false)), (.t (.int .i64 0)), (.t (.int .i64 0)), .nils, (.t (.int .i64 0)), (.t (.int .i64 0)), .nils, .nils, .nils, (.t (.bool false)), (.t (.bool false)), (.t (.int .i64 0)), .nils, .nils, .nils, (.t (.int .i64 0))] [⟨0, ⟨1, (.t 15)⟩⟩, ⟨1, ⟨1, (.t 16)⟩⟩, ⟨2, ⟨1, (.c (.t (.bool true)))⟩⟩])⟩, ⟨none, none, (.store 18 (.t 4) (.t 17))⟩]) .ret)))
theorem k_spec_RecNew : comp Try.prog 18 (Try.f38.body.getD .skip) = some c_spec_RecNew := by kernel_rfl

theorem spec_RecNew (n : Int) (hn : i64r n) (o : Int) (ho : i64r o)  (σ : Store) : ACalls Try.prog 38 [.t (.int .i64 (n)), .t (.int .i64 (o))] σ fun rr σ' => rr = .agg (newRes n o) ∧ σ' = σ := by
  refine acalls_of Try.func38 (by decide +kernel) (code := Try.f38.body.getD .skip) (n := 18) (c := c_spec_RecNew) (rs := [(.cell 4 (some 18))]) rfl rfl k_spec_RecNew (by kernel_rfl) (by simp) (fun hσ => ?_)
  have hh : True := trivial
  have fin : ∀ {u : V} {τ : Store}, u = .agg (newRes n o) → V.lt σ.length (.agg (newRes n o)) = true → retV σ.length (fun rr σ' => rr = .agg (newRes n o) ∧ σ' = σ) (σ ++ τ) (some [u]) := fun h h2 => ret_same rfl hσ (by simp only [mkRes]; rw [h]; exact h2) ⟨h, rfl⟩
  have fin0 : ∀ {u : V}, u = .agg (newRes n o) → retV σ.length (fun rr σ' => rr = .agg (newRes n o) ∧ σ' = σ) σ (some [u]) := fun h => ret_same0 rfl ⟨h, rfl⟩
  simp -implicitDefEqProofs only [c_spec_RecNew, S0, S1, S2, S3, S4, S5, S6, S7, S8, S9, S10, S11, S12, S13, S14, S15, opv, opvs, eget, env0, setD, lenStr, lenSl, isNilP, isNilS, putAt, if_true, if_false, reduceCtorEq, Nat.reduceLeDiff, Nat.reduceEqDiff, Nat.reduceSub, Nat.reduceMul, Nat.reduceAdd]
  repeat' (first
    | ((with_reducible refine cond_known (fun h => ?_) (fun h => ?_)) <;> (replace hh := And.intro h hh; clear h; simp -implicitDefEqProofs only [hh, cond_t, cond_f, S0, S1, S2, S3, S4, S5, S6, S7, S8, S9, S10, S11, S12, S13, S14, S15, opv, opvs, eget, env0, setD, lenStr, lenSl, isNilP, isNilS, putAt, if_true, if_false, reduceCtorEq, Nat.reduceLeDiff, Nat.reduceEqDiff, Nat.reduceSub, Nat.reduceMul, Nat.reduceAdd]))
    | ((with_reducible refine call_pure (spec_l21In _ _ _ _) ?_); simp -implicitDefEqProofs only [hh, cond_t, cond_f, S0, S1, S2, S3, S4, S5, S6, S7, S8, S9, S10, S11, S12, S13, S14, S15, opv, opvs, eget, env0, setD, lenStr, lenSl, isNilP, isNilS, putAt, if_true, if_false, reduceCtorEq, Nat.reduceLeDiff, Nat.reduceEqDiff, Nat.reduceSub, Nat.reduceMul, Nat.reduceAdd])
    | ((with_reducible refine fin ?_ ?_); rotate_left; (simp only [newRes]; split <;> rfl); (try simp only [Known] at hh); (have hc : newC n o = newC n o := rfl); first | (rw [show newRes n o = newVs n o true by unfold newRes; rw [if_pos (by grind [newC])]]; rfl) | (rw [show newRes n o = newVs 0 0 false by unfold newRes; rw [if_neg (by grind [newC])]]; rfl)))

def c_impl_RecNew : C := (.seq (.ops [⟨(some 4), none, (.new [(.t (.int .i64 0)), (.t (.int .i64 0)), (.t (.bool false)), (.t (.int .i64 0)), (.t (.int .i64 0)), .nils, (.t (.int .i64 0)), (.t (.int .i64 0)), .nils, .nils, .nils, (.t (.bool false)), (.t (.bool false)), (.t (.int .i64 0)), .nils, .nils, .nils, (.t (.int .i64 0))])⟩]) (.seq (.seq (.ops [⟨(some 5), none, (.mv (.t 1))⟩, ⟨(some 6), none, (.call (.c (.fn (.func 80) [])) [(.t 5), (.c (.t (.int .i64 1))), (.c (.t (.int .i64 5)))])⟩, ⟨(some 7), none, (.un .not (.t 6))⟩, ⟨(some 8), none, (.mv (.t 7))⟩, ⟨(some 9), (some ⟨8, false⟩), (.mv (.t 0))⟩, ⟨(some 10), (some ⟨8, false⟩), (.mv (.t 1))⟩, ⟨(some 11), (some ⟨8, false⟩), (.call (.c (.fn (.func 80) [])) [(.t 9), (.c (.t (.int .i64 1))), (.t 10)])⟩, ⟨(some 12), (some ⟨8, false⟩), (.un .not (.t 11))⟩, ⟨(some 13), none, (.pick (.t 8) (.c (.t (.bool true))) (.t 12))⟩]) (.cond (.t 13) (.seq (.ops [⟨(some 14), none, (.build [(.t (.int .i64 0)), (.t (.int .i64 0)), (.t (.bool false)), (.t (.int .i64 0)), (.t (.int .i64 0)), .nils, (.t (.int .i64 0)), (.t (.int .i64 0)), .nils, .nils, .nils, (.t (.bool false)), (.t (.bool false)), (.t (.int .i64 0)), .nils, .nils, .nils, (.t (.int .i64 0))] [])⟩, ⟨none, none, (.store 18 (.t 4) (.t 14))⟩]) .ret) .skip)) (.seq (.ops [⟨(some 15), none, (.mv (.t 0))⟩, ⟨(some 16), none, (.mv (.t 1))⟩, ⟨(some 17), none, (.build [(.t (.int .i64 0)), (.t (.int .i64 0)), (.t (.bool false)), (.t (.int .i64 0)), (.t (.int .i64 0)), .nils, (.t (.int .i64 0)), (.t (.int .i64 0)), .nils, .nils, .nils, (.t (.bool false)), (.t (.bool false)), (.t (.int .i64 0)), .nils, .nils, .nils, (.t (.int .i64 0))] [⟨0, ⟨1, (.t 15)⟩⟩, ⟨1, ⟨1, (.t 16)⟩⟩, ⟨2, ⟨1, (.c (.t (.bool true)))⟩⟩])⟩, ⟨none, none, (.store 18 (.t 4) (.t 17))⟩]) .ret)))
theorem k_impl_RecNew : comp Try.prog 18 (Try.f39.body.getD .skip) = some c_impl_RecNew := by kernel_rfl

theorem impl_RecNew (n : Int) (hn : i64r n) (o : Int) (ho : i64r o)  (σ : Store) : ACalls Try.prog 39 [.t (.int .i64 (n)), .t (.int .i64 (o))] σ fun rr σ' => rr = .agg (newRes n o) ∧ σ' = σ := by
  refine acalls_of Try.func39 (by decide +kernel) (code := Try.f39.body.getD .skip) (n := 18) (c := c_impl_RecNew) (rs := [(.cell 4 (some 18))]) rfl rfl k_impl_RecNew (by kernel_rfl) (by simp) (fun hσ => ?_)
  have hh : True := trivial
  have fin : ∀ {u : V} {τ : Store}, u = .agg (newRes n o) → V.lt σ.length (.agg (newRes n o)) = true → retV σ.length (fun rr σ' => rr = .agg (newRes n o) ∧ σ' = σ) (σ ++ τ) (some [u]) := fun h h2 => ret_same rfl hσ (by simp only [mkRes]; rw [h]; exact h2) ⟨h, rfl⟩
  have fin0 : ∀ {u : V}, u = .agg (newRes n o) → retV σ.length (fun rr σ' => rr = .agg (newRes n o) ∧ σ' = σ) σ (some [u]) := fun h => ret_same0 rfl ⟨h, rfl⟩
  simp -implicitDefEqProofs only [c_impl_RecNew, S0, S1, S2, S3, S4, S5, S6, S7, S8, S9, S10, S11, S12, S13, S14, S15, opv, opvs, eget, env0, setD, lenStr, lenSl, isNilP, isNilS, putAt, if_true, if_false, reduceCtorEq, Nat.reduceLeDiff, Nat.reduceEqDiff, Nat.reduceSub, Nat.reduceMul, Nat.reduceAdd]
  repeat' (first
    | ((with_reducible refine cond_known (fun h => ?_) (fun h => ?_)) <;> (replace hh := And.intro h hh; clear h; simp -implicitDefEqProofs only [hh, cond_t, cond_f, S0, S1, S2, S3, S4, S5, S6, S7, S8, S9, S10, S11, S12, S13, S14, S15, opv, opvs, eget, env0, setD, lenStr, lenSl, isNilP, isNilS, putAt, if_true, if_false, reduceCtorEq, Nat.reduceLeDiff, Nat.reduceEqDiff, Nat.reduceSub, Nat.reduceMul, Nat.reduceAdd]))
    | ((with_reducible refine call_pure (impl_within_rec _ _ _ _) ?_); simp -implicitDefEqProofs only [hh, cond_t, cond_f, S0, S1, S2, S3, S4, S5, S6, S7, S8, S9, S10, S11, S12, S13, S14, S15, opv, opvs, eget, env0, setD, lenStr, lenSl, isNilP, isNilS, putAt, if_true, if_false, reduceCtorEq, Nat.reduceLeDiff, Nat.reduceEqDiff, Nat.reduceSub, Nat.reduceMul, Nat.reduceAdd])
    | ((with_reducible refine fin ?_ ?_); rotate_left; (simp only [newRes]; split <;> rfl); (try simp only [Known] at hh); (have hc : newC n o = newC n o := rfl); first | (rw [show newRes n o = newVs n o true by unfold newRes; rw [if_pos (by grind [newC])]]; rfl) | (rw [show newRes n o = newVs 0 0 false by unfold newRes; rw [if_neg (by grind [newC])]]; rfl)))

end Go.Proofs.Ytleilaipdhmgeaa.W

end


section
open Go Go.Ab
set_option maxHeartbeats 4000000
namespace Go.Proofs.Ytleilaipdhmgeaa.W
def nwRow (n : Int) (i : Nat) : List T := newTs ((i + 1 : Nat) : Int) n true
def nwRowV (n : Int) (i : Nat) : List V := newVs ((i + 1 : Nat) : Int) n true
def nwRows (n : Int) (k : Nat) : List (List T) := (List.range k).map (nwRow n)
def nwRowsV (n : Int) (k : Nat) : List (List V) := (List.range k).map (nwRowV n)
def nwV (a k : Nat) : V := match k with | 0 => .nils | k + 1 => .sl a (k + 1) 0 (k + 1)
def nwS (σ : Store) (n : Int) (k : Nat) : Store := match k with
  | 0 => σ ++ [.box [.nils, .nils, .nils], .box [.nils, .nils, .nils]]
  | k + 1 => σ ++ [.box [.nils, .nils, .nils], .box [.sl (σ.length + 2) (k + 1) 0 (k + 1), .nils, .nils], .slc 18 (nwRowsV n (k + 1))]
def nwC (n : Int) : Bool := wi n 1 5
def nwK (n : Int) : Nat := if nwC n = true then n.toNat else 0
def resT_RecNewWorld (n : Int) : List T := [.lst 18 (nwRows n (nwK n)), .lst 8 [], .lst 2 []]
theorem nwRowsV_len (n : Int) (k : Nat) : (nwRowsV n k).length = k := by simp [nwRowsV]
theorem nwRows_len (n : Int) (k : Nat) : (nwRows n k).length = k := by simp [nwRows]
theorem nwRowsV_step (n : Int) (k : Nat) : nwRowsV n (k + 1) = nwRowsV n k ++ [nwRowV n k] := by simp [nwRowsV, List.range_succ]
theorem nwRows_step (n : Int) (k : Nat) : nwRows n (k + 1) = nwRows n k ++ [nwRow n k] := by simp [nwRows, List.range_succ]
theorem nwOwnR (s : Store) (n : Int) : ∀ k, OwnR s (nwRows n k) (nwRowsV n k) []
  | 0 => by simp [nwRows, nwRowsV, OwnR]
  | k + 1 => by
    rw [nwRows_step, nwRowsV_step]
    have := OwnR.app (nwOwnR s n k) (OwnR.one (own_new s ((k + 1 : Nat) : Int) n true))
    rw [List.append_nil] at this
    exact this
def nwIs (σ : Store) (k : Nat) : List Nat := match k with | 0 => [] | _ + 1 => [σ.length + 2]
theorem nw_own (σ s : Store) (n : Int) (k : Nat) (h : ∀ j, k = j + 1 → s[σ.length + 2]? = some (.slc 18 (nwRowsV n k))) : OwnL s [.lst 18 (nwRows n k), .lst 8 [], .lst 2 []] [nwV (σ.length + 2) k, .nils, .nils] (nwIs σ k) := by
  rcases k with _ | k
  · refine OwnL.lst (is := []) ?_ (OwnL.lst (is := []) (own_nils (by omega)) (OwnL.lst (is := []) (own_nils (by omega)) OwnL.nil0))
    simp [nwRows, nwV, Own]
  · refine OwnL.lst (is := [σ.length + 2]) ?_ (OwnL.lst (is := []) (own_nils (by omega)) (OwnL.lst (is := []) (own_nils (by omega)) OwnL.nil0))
    simp only [nwV, Own]
    refine ⟨by omega, .inr ⟨σ.length + 2, [], nwRowsV n (k + 1), rfl, by rw [nwRowsV_len], h k rfl, nwOwnR s n (k + 1)⟩⟩
theorem nw_res {n : Int} (h : nwC n = true) {k : Nat} (hk : k < n.toNat) : newRes ((k + 1 : Nat) : Int) n = nwRowV n k := by
  have h1 : 1 ≤ n ∧ n ≤ 5 := by simpa [nwC, wi] using h
  have h2 : (((k + 1 : Nat) : Int)) ≤ n := by omega
  unfold newRes newC
  rw [if_pos (by simp only [wi, Bool.and_eq_true, decide_eq_true_eq]; omega)]
  rfl

def c_spec_RecNewWorld : C := (.seq (.ops [⟨(some 2), none, (.new [.nils, .nils, .nils])⟩]) (.seq (.ops [⟨(some 5), none, (.build [.nils, .nils, .nils] [])⟩, ⟨(some 3), none, (.new [.nils, .nils, .nils])⟩, ⟨none, none, (.store 3 (.t 3) (.t 5))⟩]) (.seq (.seq (.ops [⟨(some 6), none, (.mv (.t 0))⟩, ⟨(some 7), none, (.call (.c (.fn (.func 79) [])) [(.t 6), (.c (.t (.int .i64 1))), (.c (.t (.int .i64 5)))])⟩, ⟨(some 8), none, (.un .not (.t 7))⟩]) (.cond (.t 8) (.seq (.ops [⟨(some 9), none, (.load (some 3) (.t 3))⟩, ⟨none, none, (.store 3 (.t 2) (.t 9))⟩]) .ret) .skip)) (.seq (.seq (.ops [⟨(some 4), none, (.mv (.c (.t (.int .i64 1))))⟩]) (.block 0 (.loop (.seq (.seq (.ops [⟨(some 10), none, (.mv (.t 4))⟩, ⟨(some 11), none, (.mv (.t 0))⟩, ⟨(some 12), none, (.bin .leq (.t 10) (.t 11))⟩]) (.cond (.t 12) .skip (.exit 0))) (.seq (.block 1 (.drawn [(.mk 0 false ⟨(some 15), none, (.fieldAddr 0 (.t 3))⟩), (.mk 1 false ⟨(some 16), none, (.load none (.t 15))⟩), (.mk 2 false ⟨(some 17), none, (.mv (.t 4))⟩), (.mk 3 false ⟨(some 18), none, (.mv (.t 0))⟩), (.mk 4 true ⟨(some 19), none, (.call (.c (.fn (.func 38) [])) [(.t 17), (.t 18)])⟩), (.mk 5 false ⟨(some 20), none, (.lit (some false) 18 1 [(.t (.int .i64 0)), (.t (.int .i64 0)), (.t (.bool false)), (.t (.int .i64 0)), (.t (.int .i64 0)), .nils, (.t (.int .i64 0)), (.t (.int .i64 0)), .nils, .nils, .nils, (.t (.bool false)), (.t (.bool false)), (.t (.int .i64 0)), .nils, .nils, .nils, (.t (.int .i64 0))] [⟨0, (.t 19)⟩])⟩), (.mk 6 false ⟨(some 21), none, (.append 18 248 (.t 16) (.t 20))⟩), (.mk 7 false ⟨(some 22), none, (.fieldAddr 0 (.t 3))⟩), (.mk 8 false ⟨none, none, (.store 1 (.t 22) (.t 21))⟩)])) (.ops [⟨(some 13), none, (.mv (.t 4))⟩, ⟨(some 14), none, (.bin .add (.t 13) (.c (.t (.int .i64 1))))⟩, ⟨(some 4), none, (.mv (.t 14))⟩])))))) (.seq (.ops [⟨(some 23), none, (.load (some 3) (.t 3))⟩, ⟨none, none, (.store 3 (.t 2) (.t 23))⟩]) .ret)))))
theorem k_spec_RecNewWorld : comp Try.prog 24 (Try.f47.body.getD .skip) = some c_spec_RecNewWorld := by kernel_rfl

theorem specO_RecNewWorld (n : Int) (hn : i64r n) (σ : Store) : ACalls Try.prog 47 [.t (.int .i64 n)] σ (ToLR (resT_RecNewWorld n) σ) := by
  refine acalls_of Try.func47 (by decide +kernel) (code := Try.f47.body.getD .skip) (n := 24) (c := c_spec_RecNewWorld) (rs := [(.cell 2 (some 3))]) rfl rfl k_spec_RecNewWorld (by kernel_rfl) (by simp) (fun hσ => ?_)
  simp -implicitDefEqProofs only [c_spec_RecNewWorld, S0, S1, S2, S3, S4, S5, S6, S7, S8, S9, S10, S11, S12, S13, S14, S15, opv, opvs, eget, env0, setD, lenStr, lenSl, isNilP, isNilS, putAt, if_true, if_false, reduceCtorEq, Nat.reduceLeDiff, Nat.reduceEqDiff, Nat.reduceSub, Nat.reduceMul, Nat.reduceAdd]
  refine call_pure (spec_l21In _ _ _ _) ?_
  simp -implicitDefEqProofs only [S0, S1, S2, S3, S4, S5, S6, S7, S8, S9, S10, S11, S12, S13, S14, S15, opv, opvs, eget, env0, setD, lenStr, lenSl, isNilP, isNilS, putAt, if_true, if_false, reduceCtorEq, Nat.reduceLeDiff, Nat.reduceEqDiff, Nat.reduceSub, Nat.reduceMul, Nat.reduceAdd]
  have wi0 : ∀ k (s : Store), (∀ j, k = j + 1 → s.length = σ.length + 3) → Wi (nwIs σ k) σ.length s.length := by
    intro k s h
    rcases k with _ | k
    · exact Wi.nil
    · exact Wi.cons (Wi.nil (a := σ.length + 3)) (by omega) (by simp) (by have := h k rfl; omega)
  have zero : nwC n = false → ToLR (resT_RecNewWorld n) σ (.agg [.nils, .nils, .nils]) (σ ++ [Go.Ab.Obj.box [.nils, .nils, .nils], Go.Ab.Obj.box [.nils, .nils, .nils]]) := by
    intro hc
    refine ⟨_, _, [], rfl, rfl, ?_, Wi.nil⟩
    have := nw_own σ (nwS σ n 0) n 0 (by rintro j hj; cases hj)
    simp only [resT_RecNewWorld, nwK, hc, Bool.false_eq_true, if_false]
    exact this
  refine cond_split (fun h => ?_) (fun h => ?_)
  · have hc : nwC n = false := by simpa [nwC] using h
    simp -implicitDefEqProofs only [S0, S1, S2, S3, S4, S5, S6, S7, S8, S9, S10, S11, S12, S13, S14, S15, opv, opvs, eget, env0, setD, lenStr, lenSl, isNilP, isNilS, putAt, if_true, if_false, reduceCtorEq, Nat.reduceLeDiff, Nat.reduceEqDiff, Nat.reduceSub, Nat.reduceMul, Nat.reduceAdd]
    exact fin_keep (by simp) (zero hc)
  · have hc : nwC n = true := by simpa [nwC] using h
    simp -implicitDefEqProofs only [S0, S1, S2, S3, S4, S5, S6, S7, S8, S9, S10, S11, S12, S13, S14, S15, opv, opvs, eget, env0, setD, lenStr, lenSl, isNilP, isNilS, putAt, if_true, if_false, reduceCtorEq, Nat.reduceLeDiff, Nat.reduceEqDiff, Nat.reduceSub, Nat.reduceMul, Nat.reduceAdd]
    have hb : 1 ≤ n ∧ n ≤ 5 := by simpa [nwC, wi] using hc
    refine loop_g [4, 0, 2, 3] [0, 2, 3] (fun k : Nat => [(4, .t (.int .i64 ((k + 1 : Nat) : Int)))]) (fun k => nwS σ n k) (fun k => k ≤ n.toNat) (fun k => n.toNat - k) 0 (by simp) (Nat.zero_le _) rfl rfl ?_
    rintro k hk
    have bl : σ.length ≤ (nwS σ n k).length := by cases k <;> simp [nwS]
    simp -implicitDefEqProofs only [keep, S0, S1, S2, S3, S4, S5, S6, S7, S8, S9, S10, S11, S12, S13, S14, S15, opv, opvs, eget, env0, setD, lenStr, lenSl, isNilP, isNilS, putAt, if_true, if_false, reduceCtorEq, Nat.reduceLeDiff, Nat.reduceEqDiff, Nat.reduceSub, Nat.reduceMul, Nat.reduceAdd]
    refine cond_split (fun h1 => ?_) (fun h1 => ?_)
    · have hlt : k < n.toNat := by have := of_decide_eq_true h1; omega
      have hrow := nw_res hc hlt
      have more := i64_succ (show k + 1 < 4611686018427387904 by omega)
      have h64 : i64r ((k + 1 : Nat) : Int) := by simp only [i64r]; omega
      have c1 : (0 : Nat) < 1 := by omega
      have hrw : (([nwRowV n k] : List (List V)).all fun r => r.all one) = true := rfl
      rcases k with _ | k
      · have b1 : 1 * 248 ≤ maxBy := by simp only [maxBy]; omega
        have b1' : 248 ≤ maxBy := by simp only [maxBy]; omega
        have b3 : 1 ≤ 9223372036854775807 := by omega
        have e0 : nwS σ n 0 = σ ++ [.box [.nils, .nils, .nils], .box [.nils, .nils, .nils]] := rfl
        have hl18 : (nwRowV n 0).length = 18 := rfl
        have hl1 : (nwRowV n 0).all one = true := rfl
        simp -implicitDefEqProofs only [e0, S0, S1, S2, S3, S4, S5, S6, S7, S8, S9, S10, S11, S12, S13, S14, S15, opv, opvs, eget, env0, setD, lenStr, lenSl, isNilP, isNilS, putAt, if_true, if_false, reduceCtorEq, Nat.reduceLeDiff, Nat.reduceEqDiff, Nat.reduceSub, Nat.reduceMul, Nat.reduceAdd]
        refine call_pure (spec_RecNew _ h64 n hn _) ?_
        simp -implicitDefEqProofs only [hrow, hl18, hl1, c1, q_rows_r _ _ hrw, b1, b1', b3, more, S0, S1, S2, S3, S4, S5, S6, S7, S8, S9, S10, S11, S12, S13, S14, S15, opv, opvs, eget, env0, setD, lenStr, lenSl, isNilP, isNilS, putAt, if_true, if_false, reduceCtorEq, Nat.reduceLeDiff, Nat.reduceEqDiff, Nat.reduceSub, Nat.reduceMul, Nat.reduceAdd]
        exact lk_g 1 (by omega) (by omega) (by simp) rfl rfl
      · have b1 : (k + 1 + 1) * 248 ≤ maxBy := by simp only [maxBy]; omega
        have b1' : (k + 2) * 248 ≤ maxBy := by simp only [maxBy]; omega
        have b2 : k ≤ 9223372036854775805 := by omega
        have e0 : nwS σ n (k + 1) = σ ++ [.box [.nils, .nils, .nils], .box [.sl (σ.length + 2) (k + 1) 0 (k + 1), .nils, .nils], .slc 18 (nwRowsV n (k + 1))] := rfl
        have hl18 : (nwRowV n (k + 1)).length = 18 := rfl
        have hl1 : (nwRowV n (k + 1)).all one = true := rfl
        have hlen := nwRowsV_len n (k + 1)
        simp -implicitDefEqProofs only [e0, S0, S1, S2, S3, S4, S5, S6, S7, S8, S9, S10, S11, S12, S13, S14, S15, opv, opvs, eget, env0, setD, lenStr, lenSl, isNilP, isNilS, putAt, if_true, if_false, reduceCtorEq, Nat.reduceLeDiff, Nat.reduceEqDiff, Nat.reduceSub, Nat.reduceMul, Nat.reduceAdd]
        refine call_pure (spec_RecNew _ h64 n hn _) ?_
        simp -implicitDefEqProofs only [hrow, hl18, hl1, c1, q_rows_r _ _ hrw, hlen, b1, b1', b2, more, S0, S1, S2, S3, S4, S5, S6, S7, S8, S9, S10, S11, S12, S13, S14, S15, opv, opvs, eget, env0, setD, lenStr, lenSl, isNilP, isNilS, putAt, if_true, if_false, reduceCtorEq, Nat.reduceLeDiff, Nat.reduceEqDiff, Nat.reduceSub, Nat.reduceMul, Nat.reduceAdd]
        exact lk_g (k + 2) (by omega) (by omega) (by simp) (by simp only [nwS, nwRowsV_step n (k + 1)]) rfl
    · have hkk : k = n.toNat := by
        have := of_decide_eq_false h1
        omega
      have hK : nwK n = k := by rw [nwK, if_pos hc, hkk]
      have ho := nw_own σ (nwS σ n k) n k (by rintro j rfl; simp [nwS])
      have hw := wi0 k (nwS σ n k) (by rintro j rfl; simp [nwS])
      rcases k with _ | k
      · omega
      · have e0 : nwS σ n (k + 1) = σ ++ [.box [.nils, .nils, .nils], .box [.sl (σ.length + 2) (k + 1) 0 (k + 1), .nils, .nils], .slc 18 (nwRowsV n (k + 1))] := rfl
        rw [e0] at ho hw
        simp -implicitDefEqProofs only [e0, S0, S1, S2, S3, S4, S5, S6, S7, S8, S9, S10, S11, S12, S13, S14, S15, opv, opvs, eget, env0, setD, lenStr, lenSl, isNilP, isNilS, putAt, if_true, if_false, reduceCtorEq, Nat.reduceLeDiff, Nat.reduceEqDiff, Nat.reduceSub, Nat.reduceMul, Nat.reduceAdd]
        refine fin_keep (by simp) ⟨_, _, nwIs σ (k + 1), rfl, rfl, ?_, ?_⟩
        · rw [resT_RecNewWorld, hK]
          exact nw_own σ _ n (k + 1) (by rintro j _; simp)
        · simpa using hw


def c_impl_RecNewWorld : C := (.seq (.ops [⟨(some 2), none, (.new [.nils, .nils, .nils])⟩]) (.seq (.ops [⟨(some 3), none, (.new [.nils, .nils, .nils])⟩]) (.seq (.seq (.ops [⟨(some 5), none, (.mv (.t 0))⟩, ⟨(some 6), none, (.call (.c (.fn (.func 80) [])) [(.t 5), (.c (.t (.int .i64 1))), (.c (.t (.int .i64 5)))])⟩]) (.cond (.t 6) (.seq (.ops [⟨(some 4), none, (.mv (.c (.t (.int .i64 1))))⟩]) (.block 0 (.loop (.seq (.seq (.ops [⟨(some 7), none, (.mv (.t 4))⟩, ⟨(some 8), none, (.mv (.t 0))⟩, ⟨(some 9), none, (.bin .leq (.t 7) (.t 8))⟩]) (.cond (.t 9) .skip (.exit 0))) (.seq (.block 1 (.drawn [(.mk 0 false ⟨(some 12), none, (.fieldAddr 0 (.t 3))⟩), (.mk 1 false ⟨(some 13), none, (.load none (.t 12))⟩), (.mk 2 false ⟨(some 14), none, (.mv (.t 4))⟩), (.mk 3 false ⟨(some 15), none, (.mv (.t 0))⟩), (.mk 4 true ⟨(some 16), none, (.call (.c (.fn (.func 39) [])) [(.t 14), (.t 15)])⟩), (.mk 5 false ⟨(some 17), none, (.lit (some false) 18 1 [(.t (.int .i64 0)), (.t (.int .i64 0)), (.t (.bool false)), (.t (.int .i64 0)), (.t (.int .i64 0)), .nils, (.t (.int .i64 0)), (.t (.int .i64 0)), .nils, .nils, .nils, (.t (.bool false)), (.t (.bool false)), (.t (.int .i64 0)), .nils, .nils, .nils, (.t (.int .i64 0))] [⟨0, (.t 16)⟩])⟩), (.mk 6 false ⟨(some 18), none, (.append 18 248 (.t 13) (.t 17))⟩), (.mk 7 false ⟨(some 19), none, (.fieldAddr 0 (.t 3))⟩), (.mk 8 false ⟨none, none, (.store 1 (.t 19) (.t 18))⟩)])) (.ops [⟨(some 10), none, (.mv (.t 4))⟩, ⟨(some 11), none, (.bin .add (.t 10) (.c (.t (.int .i64 1))))⟩, ⟨(some 4), none, (.mv (.t 11))⟩])))))) .skip)) (.seq (.ops [⟨(some 20), none, (.load (some 3) (.t 3))⟩, ⟨none, none, (.store 3 (.t 2) (.t 20))⟩]) .ret))))
theorem k_impl_RecNewWorld : comp Try.prog 21 (Try.f48.body.getD .skip) = some c_impl_RecNewWorld := by kernel_rfl

theorem implO_RecNewWorld (n : Int) (hn : i64r n) (σ : Store) : ACalls Try.prog 48 [.t (.int .i64 n)] σ (ToLR (resT_RecNewWorld n) σ) := by
  refine acalls_of Try.func48 (by decide +kernel) (code := Try.f48.body.getD .skip) (n := 21) (c := c_impl_RecNewWorld) (rs := [(.cell 2 (some 3))]) rfl rfl k_impl_RecNewWorld (by kernel_rfl) (by simp) (fun hσ => ?_)
  simp -implicitDefEqProofs only [c_impl_RecNewWorld, S0, S1, S2, S3, S4, S5, S6, S7, S8, S9, S10, S11, S12, S13, S14, S15, opv, opvs, eget, env0, setD, lenStr, lenSl, isNilP, isNilS, putAt, if_true, if_false, reduceCtorEq, Nat.reduceLeDiff, Nat.reduceEqDiff, Nat.reduceSub, Nat.reduceMul, Nat.reduceAdd]
  refine call_pure (impl_within_rec _ _ _ _) ?_
  simp -implicitDefEqProofs only [S0, S1, S2, S3, S4, S5, S6, S7, S8, S9, S10, S11, S12, S13, S14, S15, opv, opvs, eget, env0, setD, lenStr, lenSl, isNilP, isNilS, putAt, if_true, if_false, reduceCtorEq, Nat.reduceLeDiff, Nat.reduceEqDiff, Nat.reduceSub, Nat.reduceMul, Nat.reduceAdd]
  have wi0 : ∀ k (s : Store), (∀ j, k = j + 1 → s.length = σ.length + 3) → Wi (nwIs σ k) σ.length s.length := by
    intro k s h
    rcases k with _ | k
    · exact Wi.nil
    · exact Wi.cons (Wi.nil (a := σ.length + 3)) (by omega) (by simp) (by have := h k rfl; omega)
  have zero : nwC n = false → ToLR (resT_RecNewWorld n) σ (.agg [.nils, .nils, .nils]) (σ ++ [Go.Ab.Obj.box [.nils, .nils, .nils], Go.Ab.Obj.box [.nils, .nils, .nils]]) := by
    intro hc
    refine ⟨_, _, [], rfl, rfl, ?_, Wi.nil⟩
    have := nw_own σ (nwS σ n 0) n 0 (by rintro j hj; cases hj)
    simp only [resT_RecNewWorld, nwK, hc, Bool.false_eq_true, if_false]
    exact this
  refine cond_split (fun h => ?_) (fun h => ?_)
  · have hc : nwC n = true := by simpa [nwC] using h
    simp -implicitDefEqProofs only [S0, S1, S2, S3, S4, S5, S6, S7, S8, S9, S10, S11, S12, S13, S14, S15, opv, opvs, eget, env0, setD, lenStr, lenSl, isNilP, isNilS, putAt, if_true, if_false, reduceCtorEq, Nat.reduceLeDiff, Nat.reduceEqDiff, Nat.reduceSub, Nat.reduceMul, Nat.reduceAdd]
    have hb : 1 ≤ n ∧ n ≤ 5 := by simpa [nwC, wi] using hc
    refine loop_g [4, 0, 2, 3] [0, 2, 3] (fun k : Nat => [(4, .t (.int .i64 ((k + 1 : Nat) : Int)))]) (fun k => nwS σ n k) (fun k => k ≤ n.toNat) (fun k => n.toNat - k) 0 (by simp) (Nat.zero_le _) rfl rfl ?_
    rintro k hk
    have bl : σ.length ≤ (nwS σ n k).length := by cases k <;> simp [nwS]
    simp -implicitDefEqProofs only [keep, S0, S1, S2, S3, S4, S5, S6, S7, S8, S9, S10, S11, S12, S13, S14, S15, opv, opvs, eget, env0, setD, lenStr, lenSl, isNilP, isNilS, putAt, if_true, if_false, reduceCtorEq, Nat.reduceLeDiff, Nat.reduceEqDiff, Nat.reduceSub, Nat.reduceMul, Nat.reduceAdd]
    refine cond_split (fun h1 => ?_) (fun h1 => ?_)
    · have hlt : k < n.toNat := by have := of_decide_eq_true h1; omega
      have hrow := nw_res hc hlt
      have more := i64_succ (show k + 1 < 4611686018427387904 by omega)
      have h64 : i64r ((k + 1 : Nat) : Int) := by simp only [i64r]; omega
      have c1 : (0 : Nat) < 1 := by omega
      have hrw : (([nwRowV n k] : List (List V)).all fun r => r.all one) = true := rfl
      rcases k with _ | k
      · have b1 : 1 * 248 ≤ maxBy := by simp only [maxBy]; omega
        have b1' : 248 ≤ maxBy := by simp only [maxBy]; omega
        have b3 : 1 ≤ 9223372036854775807 := by omega
        have e0 : nwS σ n 0 = σ ++ [.box [.nils, .nils, .nils], .box [.nils, .nils, .nils]] := rfl
        have hl18 : (nwRowV n 0).length = 18 := rfl
        have hl1 : (nwRowV n 0).all one = true := rfl
        simp -implicitDefEqProofs only [e0, S0, S1, S2, S3, S4, S5, S6, S7, S8, S9, S10, S11, S12, S13, S14, S15, opv, opvs, eget, env0, setD, lenStr, lenSl, isNilP, isNilS, putAt, if_true, if_false, reduceCtorEq, Nat.reduceLeDiff, Nat.reduceEqDiff, Nat.reduceSub, Nat.reduceMul, Nat.reduceAdd]
        refine call_pure (impl_RecNew _ h64 n hn _) ?_
        simp -implicitDefEqProofs only [hrow, hl18, hl1, c1, q_rows_r _ _ hrw, b1, b1', b3, more, S0, S1, S2, S3, S4, S5, S6, S7, S8, S9, S10, S11, S12, S13, S14, S15, opv, opvs, eget, env0, setD, lenStr, lenSl, isNilP, isNilS, putAt, if_true, if_false, reduceCtorEq, Nat.reduceLeDiff, Nat.reduceEqDiff, Nat.reduceSub, Nat.reduceMul, Nat.reduceAdd]
        exact lk_g 1 (by omega) (by omega) (by simp) rfl rfl
      · have b1 : (k + 1 + 1) * 248 ≤ maxBy := by simp only [maxBy]; omega
        have b1' : (k + 2) * 248 ≤ maxBy := by simp only [maxBy]; omega
        have b2 : k ≤ 9223372036854775805 := by omega
        have e0 : nwS σ n (k + 1) = σ ++ [.box [.nils, .nils, .nils], .box [.sl (σ.length + 2) (k + 1) 0 (k + 1), .nils, .nils], .slc 18 (nwRowsV n (k + 1))] := rfl
        have hl18 : (nwRowV n (k + 1)).length = 18 := rfl
        have hl1 : (nwRowV n (k + 1)).all one = true := rfl
        have hlen := nwRowsV_len n (k + 1)
        simp -implicitDefEqProofs only [e0, S0, S1, S2, S3, S4, S5, S6, S7, S8, S9, S10, S11, S12, S13, S14, S15, opv, opvs, eget, env0, setD, lenStr, lenSl, isNilP, isNilS, putAt, if_true, if_false, reduceCtorEq, Nat.reduceLeDiff, Nat.reduceEqDiff, Nat.reduceSub, Nat.reduceMul, Nat.reduceAdd]
        refine call_pure (impl_RecNew _ h64 n hn _) ?_
        simp -implicitDefEqProofs only [hrow, hl18, hl1, c1, q_rows_r _ _ hrw, hlen, b1, b1', b2, more, S0, S1, S2, S3, S4, S5, S6, S7, S8, S9, S10, S11, S12, S13, S14, S15, opv, opvs, eget, env0, setD, lenStr, lenSl, isNilP, isNilS, putAt, if_true, if_false, reduceCtorEq, Nat.reduceLeDiff, Nat.reduceEqDiff, Nat.reduceSub, Nat.reduceMul, Nat.reduceAdd]
        exact lk_g (k + 2) (by omega) (by omega) (by simp) (by simp only [nwS, nwRowsV_step n (k + 1)]) rfl
    · have hkk : k = n.toNat := by
        have := of_decide_eq_false h1
        omega
      have hK : nwK n = k := by rw [nwK, if_pos hc, hkk]
      have ho := nw_own σ (nwS σ n k) n k (by rintro j rfl; simp [nwS])
      have hw := wi0 k (nwS σ n k) (by rintro j rfl; simp [nwS])
      rcases k with _ | k
      · omega
      · have e0 : nwS σ n (k + 1) = σ ++ [.box [.nils, .nils, .nils], .box [.sl (σ.length + 2) (k + 1) 0 (k + 1), .nils, .nils], .slc 18 (nwRowsV n (k + 1))] := rfl
        rw [e0] at ho hw
        simp -implicitDefEqProofs only [e0, S0, S1, S2, S3, S4, S5, S6, S7, S8, S9, S10, S11, S12, S13, S14, S15, opv, opvs, eget, env0, setD, lenStr, lenSl, isNilP, isNilS, putAt, if_true, if_false, reduceCtorEq, Nat.reduceLeDiff, Nat.reduceEqDiff, Nat.reduceSub, Nat.reduceMul, Nat.reduceAdd]
        refine fin_keep (by simp) ⟨_, _, nwIs σ (k + 1), rfl, rfl, ?_, ?_⟩
        · rw [resT_RecNewWorld, hK]
          exact nw_own σ _ n (k + 1) (by rintro j _; simp)
        · simpa using hw
  · have hc : nwC n = false := by simpa [nwC] using h
    simp -implicitDefEqProofs only [S0, S1, S2, S3, S4, S5, S6, S7, S8, S9, S10, S11, S12, S13, S14, S15, opv, opvs, eget, env0, setD, lenStr, lenSl, isNilP, isNilS, putAt, if_true, if_false, reduceCtorEq, Nat.reduceLeDiff, Nat.reduceEqDiff, Nat.reduceSub, Nat.reduceMul, Nat.reduceAdd]
    exact fin_keep (by simp) (zero hc)

theorem specF_RecNewWorld (n : Int) (hn : i64r n) (σ : Store) : ACalls Try.prog 47 [.t (.int .i64 n)] σ fun rr σ' => rr = .agg ((resT_RecNewWorld n).map .t) ∧ σ' = σ := acalls_frzTL (specO_RecNewWorld n hn σ)
theorem nw_size (n : Int) : ∀ k, T.sizeR (nwRows n k) = 0
  | 0 => by simp [nwRows, sizeR_nil]
  | k + 1 => by
    rw [nwRows_step, sizeR_app, nw_size n k, sizeR_cons, sizeR_nil, nwRow, size_new]
theorem wf_of {n : Int} (h : i64r n) : (Lit.int .i64 n).wf = true := by
  simp only [i64r] at h
  simp only [Lit.wf, Bool.and_eq_true, decide_eq_true_eq]
  have h1 : IntKind.i64.min = -9223372036854775808 := rfl
  have h2 : IntKind.i64.max = 9223372036854775807 := rfl
  omega
theorem res_RecNewWorld (n : Int) (hn : i64r n) : T.isL shRecWorld (resT_RecNewWorld n) ∧ T.sizeL (resT_RecNewWorld n) ≤ 8388608 := by
  have hk : nwK n ≤ 5 := by
    unfold nwK
    split
    · rename_i h
      simp [nwC, wi] at h
      omega
    · omega
  refine ⟨mkRecWorld ?_ is_nil is_nil, ?_⟩
  · simp only [T.is]
    refine ⟨_, rfl, by rw [nwRows_len]; simp only [maxLen]; omega, fun r hr => ?_⟩
    simp only [nwRows, List.mem_map, List.mem_range] at hr
    obtain ⟨i, hi, rfl⟩ := hr
    exact is_new (wf_of (by simp only [i64r]; omega)) (wf_of hn)
  · rw [resT_RecNewWorld, sizeRecWorld, size_lst, size_lst, size_lst, sizeR_nil]
    have := nw_size n (nwK n)
    rw [nwRows_len]
    simp only [List.length_nil]
    omega

end Go.Proofs.Ytleilaipdhmgeaa.W

end
