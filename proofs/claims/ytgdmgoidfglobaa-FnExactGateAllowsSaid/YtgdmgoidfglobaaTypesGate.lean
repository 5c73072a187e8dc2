/- The program's structs as Lean structures, their trees (printed by types.py). Conditions: none. -/
import Derived.Test.YtgdmgoidfglobaaAb3
import Derived.Test.YtgdmgoidfglobaaLawGate
set_option linter.unusedSimpArgs false
set_option linter.unusedVariables false
set_option linter.defProp false
open Go Go.Ab
namespace Go.Proofs.Ytgdmgoidfglobaa.W
structure GateTeam where
  Name : List UInt8
  Over : List UInt8
def GateTeam.ts (x : GateTeam) : List T := [.str x.Name, .str x.Over]
abbrev GateTeam.vs (x : GateTeam) : List V := [.t (.str x.Name), .t (.str x.Over)]
theorem GateTeam.vs_ts (x : GateTeam) : x.ts.map V.t = x.vs := rfl
structure GateTeam.Ok (x : GateTeam) : Prop where
  Name : x.Name.length ≤ 1048576
  Over : x.Over.length ≤ 1048576
abbrev tGateTeamS (l : List GateTeam) : T := .lst 2 (l.map GateTeam.ts)
abbrev GateTeam.OkS (l : List GateTeam) : Prop := l.length ≤ 1048576 ∧ ∀ y ∈ l, y.Ok
theorem of_GateTeam {ts : List T} (h : T.isL shGateTeam ts) : ∃ x : GateTeam, ts = x.ts ∧ (T.sizeL ts ≤ 1048576 → x.Ok) := by
  obtain ⟨n0, n1, rfl, b0, b1⟩ := isGateTeam h
  refine ⟨⟨n0, n1⟩, rfl, fun hz => ?_⟩
  rw [sizeGateTeam] at hz
  exact ⟨by simp only; omega, by simp only; omega⟩
theorem of_GateTeamS {t : T} (h : T.is (.sl 2 shGateTeam) t) : ∃ l : List GateTeam, t = .lst 2 (l.map GateTeam.ts) ∧ (t.size ≤ 1048576 → GateTeam.OkS l) := of_list (fun ts h => of_GateTeam h) h
structure GateRule where
  Verbs : List Int
  Kind : List UInt8
  Team : List UInt8
  Prefix : List UInt8
def GateRule.ts (x : GateRule) : List T := [.lst 1 (x.Verbs.map tInt), .str x.Kind, .str x.Team, .str x.Prefix]
abbrev GateRule.vs (x : GateRule) : List V := [.t (.lst 1 (x.Verbs.map tInt)), .t (.str x.Kind), .t (.str x.Team), .t (.str x.Prefix)]
theorem GateRule.vs_ts (x : GateRule) : x.ts.map V.t = x.vs := rfl
structure GateRule.Ok (x : GateRule) : Prop where
  Verbs : IntsOk x.Verbs
  Kind : x.Kind.length ≤ 1048576
  Team : x.Team.length ≤ 1048576
  Prefix : x.Prefix.length ≤ 1048576
abbrev tGateRuleS (l : List GateRule) : T := .lst 4 (l.map GateRule.ts)
abbrev GateRule.OkS (l : List GateRule) : Prop := l.length ≤ 1048576 ∧ ∀ y ∈ l, y.Ok
theorem of_GateRule {ts : List T} (h : T.isL shGateRule ts) : ∃ x : GateRule, ts = x.ts ∧ (T.sizeL ts ≤ 1048576 → x.Ok) := by
  obtain ⟨n0, n1, n2, n3, rfl, b0, b1, b2, b3⟩ := isGateRule h
  obtain ⟨l0, rfl, c0⟩ := of_ints b0
  refine ⟨⟨l0, n1, n2, n3⟩, rfl, fun hz => ?_⟩
  rw [sizeGateRule] at hz
  exact ⟨c0 (by omega), by simp only; omega, by simp only; omega, by simp only; omega⟩
theorem of_GateRuleS {t : T} (h : T.is (.sl 4 shGateRule) t) : ∃ l : List GateRule, t = .lst 4 (l.map GateRule.ts) ∧ (t.size ≤ 1048576 → GateRule.OkS l) := of_list (fun ts h => of_GateRule h) h
structure GateAct where
  Verb : Int
  Kind : List UInt8
  Team : List UInt8
  Name : List UInt8
def GateAct.ts (x : GateAct) : List T := [.int .i64 x.Verb, .str x.Kind, .str x.Team, .str x.Name]
abbrev GateAct.vs (x : GateAct) : List V := [.t (.int .i64 x.Verb), .t (.str x.Kind), .t (.str x.Team), .t (.str x.Name)]
theorem GateAct.vs_ts (x : GateAct) : x.ts.map V.t = x.vs := rfl
structure GateAct.Ok (x : GateAct) : Prop where
  Verb : i64r x.Verb
  Kind : x.Kind.length ≤ 1048576
  Team : x.Team.length ≤ 1048576
  Name : x.Name.length ≤ 1048576
abbrev tGateActS (l : List GateAct) : T := .lst 4 (l.map GateAct.ts)
abbrev GateAct.OkS (l : List GateAct) : Prop := l.length ≤ 1048576 ∧ ∀ y ∈ l, y.Ok
theorem of_GateAct {ts : List T} (h : T.isL shGateAct ts) : ∃ x : GateAct, ts = x.ts ∧ (T.sizeL ts ≤ 1048576 → x.Ok) := by
  obtain ⟨n0, n1, n2, n3, rfl, b0, b1, b2, b3⟩ := isGateAct h
  refine ⟨⟨n0, n1, n2, n3⟩, rfl, fun hz => ?_⟩
  rw [sizeGateAct] at hz
  exact ⟨wf_i64 b0, by simp only; omega, by simp only; omega, by simp only; omega⟩
theorem of_GateActS {t : T} (h : T.is (.sl 4 shGateAct) t) : ∃ l : List GateAct, t = .lst 4 (l.map GateAct.ts) ∧ (t.size ≤ 1048576 → GateAct.OkS l) := of_list (fun ts h => of_GateAct h) h
structure GateField where
  Name : List UInt8
  Kind : Int
  Least : Int
  Most : Int
  Words : List (List UInt8)
  To : List UInt8
  Role : Int
  Must : Bool
  Fixed : Bool
  Default : List UInt8
  Weighs : List UInt8
def GateField.ts (x : GateField) : List T := [.str x.Name, .int .i64 x.Kind, .int .i64 x.Least, .int .i64 x.Most, .lst 1 (x.Words.map tStr), .str x.To, .int .i64 x.Role, .bool x.Must, .bool x.Fixed, .str x.Default, .str x.Weighs]
abbrev GateField.vs (x : GateField) : List V := [.t (.str x.Name), .t (.int .i64 x.Kind), .t (.int .i64 x.Least), .t (.int .i64 x.Most), .t (.lst 1 (x.Words.map tStr)), .t (.str x.To), .t (.int .i64 x.Role), .t (.bool x.Must), .t (.bool x.Fixed), .t (.str x.Default), .t (.str x.Weighs)]
theorem GateField.vs_ts (x : GateField) : x.ts.map V.t = x.vs := rfl
structure GateField.Ok (x : GateField) : Prop where
  Name : x.Name.length ≤ 1048576
  Kind : i64r x.Kind
  Least : i64r x.Least
  Most : i64r x.Most
  Words : StrsOk x.Words
  To : x.To.length ≤ 1048576
  Role : i64r x.Role
  Default : x.Default.length ≤ 1048576
  Weighs : x.Weighs.length ≤ 1048576
abbrev tGateFieldS (l : List GateField) : T := .lst 11 (l.map GateField.ts)
abbrev GateField.OkS (l : List GateField) : Prop := l.length ≤ 1048576 ∧ ∀ y ∈ l, y.Ok
theorem of_GateField {ts : List T} (h : T.isL shGateField ts) : ∃ x : GateField, ts = x.ts ∧ (T.sizeL ts ≤ 1048576 → x.Ok) := by
  obtain ⟨n0, n1, n2, n3, n4, n5, n6, n7, n8, n9, n10, rfl, b0, b1, b2, b3, b4, b5, b6, b9, b10⟩ := isGateField h
  obtain ⟨l4, rfl, c4⟩ := of_strs b4
  refine ⟨⟨n0, n1, n2, n3, l4, n5, n6, n7, n8, n9, n10⟩, rfl, fun hz => ?_⟩
  rw [sizeGateField] at hz
  exact ⟨by simp only; omega, wf_i64 b1, wf_i64 b2, wf_i64 b3, c4 (by omega), by simp only; omega, wf_i64 b6, by simp only; omega, by simp only; omega⟩
theorem of_GateFieldS {t : T} (h : T.is (.sl 11 shGateField) t) : ∃ l : List GateField, t = .lst 11 (l.map GateField.ts) ∧ (t.size ≤ 1048576 → GateField.OkS l) := of_list (fun ts h => of_GateField h) h
structure GateShape where
  Kind : List UInt8
  Fields : List GateField
def GateShape.ts (x : GateShape) : List T := [.str x.Kind, .lst 11 (x.Fields.map GateField.ts)]
abbrev GateShape.vs (x : GateShape) : List V := [.t (.str x.Kind), .t (.lst 11 (x.Fields.map GateField.ts))]
theorem GateShape.vs_ts (x : GateShape) : x.ts.map V.t = x.vs := rfl
structure GateShape.Ok (x : GateShape) : Prop where
  Kind : x.Kind.length ≤ 1048576
  Fields : GateField.OkS x.Fields
abbrev tGateShapeS (l : List GateShape) : T := .lst 2 (l.map GateShape.ts)
abbrev GateShape.OkS (l : List GateShape) : Prop := l.length ≤ 1048576 ∧ ∀ y ∈ l, y.Ok
theorem of_GateShape {ts : List T} (h : T.isL shGateShape ts) : ∃ x : GateShape, ts = x.ts ∧ (T.sizeL ts ≤ 1048576 → x.Ok) := by
  obtain ⟨n0, n1, rfl, b0, b1⟩ := isGateShape h
  obtain ⟨l1, rfl, c1⟩ := of_GateFieldS b1
  refine ⟨⟨n0, l1⟩, rfl, fun hz => ?_⟩
  rw [sizeGateShape] at hz
  exact ⟨by simp only; omega, c1 (by omega)⟩
theorem of_GateShapeS {t : T} (h : T.is (.sl 2 shGateShape) t) : ∃ l : List GateShape, t = .lst 2 (l.map GateShape.ts) ∧ (t.size ≤ 1048576 → GateShape.OkS l) := of_list (fun ts h => of_GateShape h) h
end Go.Proofs.Ytgdmgoidfglobaa.W
