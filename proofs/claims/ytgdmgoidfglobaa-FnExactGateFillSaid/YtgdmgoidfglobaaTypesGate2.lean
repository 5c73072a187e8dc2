/- The program's structs as Lean structures, their trees (printed by types.py). Conditions: none. -/
/- The program's structs as Lean structures, their trees (printed by types.py). Conditions: none. -/
import Derived.Test.YtgdmgoidfglobaaAb3
import Derived.Test.YtgdmgoidfglobaaLawGate2
set_option linter.unusedSimpArgs false
set_option linter.unusedVariables false
set_option linter.defProp false

section
open Go Go.Ab
namespace Go.Proofs.Ytgdmgoidfglobaa.W
structure GateTeam where
  Name : List UInt8
  Over : List UInt8
def GateTeam.ts (x : GateTeam) : List T := [.str x.Name, .str x.Over]
abbrev GateTeam.vs (x : GateTeam) : List V := [.t (.str x.Name), .t (.str x.Over)]
theorem GateTeam.vs_ts (x : GateTeam) : x.ts.map V.t = x.vs := rfl
structure GateTeam.Ok (x : GateTeam) : Prop where
  Name : x.Name.length ≤ 1048576
  Over : x.Over.length ≤ 1048576
abbrev tGateTeamS (l : List GateTeam) : T := .lst 2 (l.map GateTeam.ts)
abbrev GateTeam.OkS (l : List GateTeam) : Prop := l.length ≤ 1048576 ∧ ∀ y ∈ l, y.Ok
theorem of_GateTeam {ts : List T} (h : T.isL shGateTeam ts) : ∃ x : GateTeam, ts = x.ts ∧ (T.sizeL ts ≤ 1048576 → x.Ok) := by
  obtain ⟨n0, n1, rfl, b0, b1⟩ := isGateTeam h
  refine ⟨⟨n0, n1⟩, rfl, fun hz => ?_⟩
  rw [sizeGateTeam] at hz
  exact ⟨by simp only; omega, by simp only; omega⟩
theorem of_GateTeamS {t : T} (h : T.is (.sl 2 shGateTeam) t) : ∃ l : List GateTeam, t = .lst 2 (l.map GateTeam.ts) ∧ (t.size ≤ 1048576 → GateTeam.OkS l) := of_list (fun ts h => of_GateTeam h) h
structure GateRule where
  Verbs : List Int
  Kind : List UInt8
  Team : List UInt8
  Prefix : List UInt8
def GateRule.ts (x : GateRule) : List T := [.lst 1 (x.Verbs.map tInt), .str x.Kind, .str x.Team, .str x.Prefix]
abbrev GateRule.vs (x : GateRule) : List V := [.t (.lst 1 (x.Verbs.map tInt)), .t (.str x.Kind), .t (.str x.Team), .t (.str x.Prefix)]
theorem GateRule.vs_ts (x : GateRule) : x.ts.map V.t = x.vs := rfl
structure GateRule.Ok (x : GateRule) : Prop where
  Verbs : IntsOk x.Verbs
  Kind : x.Kind.length ≤ 1048576
  Team : x.Team.length ≤ 1048576
  Prefix : x.Prefix.length ≤ 1048576
abbrev tGateRuleS (l : List GateRule) : T := .lst 4 (l.map GateRule.ts)
abbrev GateRule.OkS (l : List GateRule) : Prop := l.length ≤ 1048576 ∧ ∀ y ∈ l, y.Ok
theorem of_GateRule {ts : List T} (h : T.isL shGateRule ts) : ∃ x : GateRule, ts = x.ts ∧ (T.sizeL ts ≤ 1048576 → x.Ok) := by
  obtain ⟨n0, n1, n2, n3, rfl, b0, b1, b2, b3⟩ := isGateRule h
  obtain ⟨l0, rfl, c0⟩ := of_ints b0
  refine ⟨⟨l0, n1, n2, n3⟩, rfl, fun hz => ?_⟩
  rw [sizeGateRule] at hz
  exact ⟨c0 (by omega), by simp only; omega, by simp only; omega, by simp only; omega⟩
theorem of_GateRuleS {t : T} (h : T.is (.sl 4 shGateRule) t) : ∃ l : List GateRule, t = .lst 4 (l.map GateRule.ts) ∧ (t.size ≤ 1048576 → GateRule.OkS l) := of_list (fun ts h => of_GateRule h) h
structure GateAct where
  Verb : Int
  Kind : List UInt8
  Team : List UInt8
  Name : List UInt8
def GateAct.ts (x : GateAct) : List T := [.int .i64 x.Verb, .str x.Kind, .str x.Team, .str x.Name]
abbrev GateAct.vs (x : GateAct) : List V := [.t (.int .i64 x.Verb), .t (.str x.Kind), .t (.str x.Team), .t (.str x.Name)]
theorem GateAct.vs_ts (x : GateAct) : x.ts.map V.t = x.vs := rfl
structure GateAct.Ok (x : GateAct) : Prop where
  Verb : i64r x.Verb
  Kind : x.Kind.length ≤ 1048576
  Team : x.Team.length ≤ 1048576
  Name : x.Name.length ≤ 1048576
abbrev tGateActS (l : List GateAct) : T := .lst 4 (l.map GateAct.ts)
abbrev GateAct.OkS (l : List GateAct) : Prop := l.length ≤ 1048576 ∧ ∀ y ∈ l, y.Ok
theorem of_GateAct {ts : List T} (h : T.isL shGateAct ts) : ∃ x : GateAct, ts = x.ts ∧ (T.sizeL ts ≤ 1048576 → x.Ok) := by
  obtain ⟨n0, n1, n2, n3, rfl, b0, b1, b2, b3⟩ := isGateAct h
  refine ⟨⟨n0, n1, n2, n3⟩, rfl, fun hz => ?_⟩
  rw [sizeGateAct] at hz
  exact ⟨wf_i64 b0, by simp only; omega, by simp only; omega, by simp only; omega⟩
theorem of_GateActS {t : T} (h : T.is (.sl 4 shGateAct) t) : ∃ l : List GateAct, t = .lst 4 (l.map GateAct.ts) ∧ (t.size ≤ 1048576 → GateAct.OkS l) := of_list (fun ts h => of_GateAct h) h
structure GateField where
  Name : List UInt8
  Kind : Int
  Least : Int
  Most : Int
  Words : List (List UInt8)
  To : List UInt8
  Role : Int
  Must : Bool
  Fixed : Bool
  Default : List UInt8
  Weighs : List UInt8
def GateField.ts (x : GateField) : List T := [.str x.Name, .int .i64 x.Kind, .int .i64 x.Least, .int .i64 x.Most, .lst 1 (x.Words.map tStr), .str x.To, .int .i64 x.Role, .bool x.Must, .bool x.Fixed, .str x.Default, .str x.Weighs]
abbrev GateField.vs (x : GateField) : List V := [.t (.str x.Name), .t (.int .i64 x.Kind), .t (.int .i64 x.Least), .t (.int .i64 x.Most), .t (.lst 1 (x.Words.map tStr)), .t (.str x.To), .t (.int .i64 x.Role), .t (.bool x.Must), .t (.bool x.Fixed), .t (.str x.Default), .t (.str x.Weighs)]
theorem GateField.vs_ts (x : GateField) : x.ts.map V.t = x.vs := rfl
structure GateField.Ok (x : GateField) : Prop where
  Name : x.Name.length ≤ 1048576
  Kind : i64r x.Kind
  Least : i64r x.Least
  Most : i64r x.Most
  Words : StrsOk x.Words
  To : x.To.length ≤ 1048576
  Role : i64r x.Role
  Default : x.Default.length ≤ 1048576
  Weighs : x.Weighs.length ≤ 1048576
abbrev tGateFieldS (l : List GateField) : T := .lst 11 (l.map GateField.ts)
abbrev GateField.OkS (l : List GateField) : Prop := l.length ≤ 1048576 ∧ ∀ y ∈ l, y.Ok
theorem of_GateField {ts : List T} (h : T.isL shGateField ts) : ∃ x : GateField, ts = x.ts ∧ (T.sizeL ts ≤ 1048576 → x.Ok) := by
  obtain ⟨n0, n1, n2, n3, n4, n5, n6, n7, n8, n9, n10, rfl, b0, b1, b2, b3, b4, b5, b6, b9, b10⟩ := isGateField h
  obtain ⟨l4, rfl, c4⟩ := of_strs b4
  refine ⟨⟨n0, n1, n2, n3, l4, n5, n6, n7, n8, n9, n10⟩, rfl, fun hz => ?_⟩
  rw [sizeGateField] at hz
  exact ⟨by simp only; omega, wf_i64 b1, wf_i64 b2, wf_i64 b3, c4 (by omega), by simp only; omega, wf_i64 b6, by simp only; omega, by simp only; omega⟩
theorem of_GateFieldS {t : T} (h : T.is (.sl 11 shGateField) t) : ∃ l : List GateField, t = .lst 11 (l.map GateField.ts) ∧ (t.size ≤ 1048576 → GateField.OkS l) := of_list (fun ts h => of_GateField h) h
structure GateShape where
  Kind : List UInt8
  Fields : List GateField
def GateShape.ts (x : GateShape) : List T := [.str x.Kind, .lst 11 (x.Fields.map GateField.ts)]
abbrev GateShape.vs (x : GateShape) : List V := [.t (.str x.Kind), .t (.lst 11 (x.Fields.map GateField.ts))]
theorem GateShape.vs_ts (x : GateShape) : x.ts.map V.t = x.vs := rfl
structure GateShape.Ok (x : GateShape) : Prop where
  Kind : x.Kind.length ≤ 1048576
  Fields : GateField.OkS x.Fields
abbrev tGateShapeS (l : List GateShape) : T := .lst 2 (l.map GateShape.ts)
abbrev GateShape.OkS (l : List GateShape) : Prop := l.length ≤ 1048576 ∧ ∀ y ∈ l, y.Ok
theorem of_GateShape {ts : List T} (h : T.isL shGateShape ts) : ∃ x : GateShape, ts = x.ts ∧ (T.sizeL ts ≤ 1048576 → x.Ok) := by
  obtain ⟨n0, n1, rfl, b0, b1⟩ := isGateShape h
  obtain ⟨l1, rfl, c1⟩ := of_GateFieldS b1
  refine ⟨⟨n0, l1⟩, rfl, fun hz => ?_⟩
  rw [sizeGateShape] at hz
  exact ⟨by simp only; omega, c1 (by omega)⟩
theorem of_GateShapeS {t : T} (h : T.is (.sl 2 shGateShape) t) : ∃ l : List GateShape, t = .lst 2 (l.map GateShape.ts) ∧ (t.size ≤ 1048576 → GateShape.OkS l) := of_list (fun ts h => of_GateShape h) h
end Go.Proofs.Ytgdmgoidfglobaa.W

end


section
open Go Go.Ab
namespace Go.Proofs.Ytgdmgoidfglobaa.W
structure GateMend where
  Kind : List UInt8
  Field : List UInt8
  When : List UInt8
  Is : List UInt8
  Put : List UInt8
  From : List UInt8
def GateMend.ts (x : GateMend) : List T := [.str x.Kind, .str x.Field, .str x.When, .str x.Is, .str x.Put, .str x.From]
abbrev GateMend.vs (x : GateMend) : List V := [.t (.str x.Kind), .t (.str x.Field), .t (.str x.When), .t (.str x.Is), .t (.str x.Put), .t (.str x.From)]
theorem GateMend.vs_ts (x : GateMend) : x.ts.map V.t = x.vs := rfl
structure GateMend.Ok (x : GateMend) : Prop where
  Kind : x.Kind.length ≤ 1048576
  Field : x.Field.length ≤ 1048576
  When : x.When.length ≤ 1048576
  Is : x.Is.length ≤ 1048576
  Put : x.Put.length ≤ 1048576
  From : x.From.length ≤ 1048576
abbrev tGateMendS (l : List GateMend) : T := .lst 6 (l.map GateMend.ts)
abbrev GateMend.OkS (l : List GateMend) : Prop := l.length ≤ 1048576 ∧ ∀ y ∈ l, y.Ok
theorem of_GateMend {ts : List T} (h : T.isL shGateMend ts) : ∃ x : GateMend, ts = x.ts ∧ (T.sizeL ts ≤ 1048576 → x.Ok) := by
  obtain ⟨n0, n1, n2, n3, n4, n5, rfl, b0, b1, b2, b3, b4, b5⟩ := isGateMend h
  refine ⟨⟨n0, n1, n2, n3, n4, n5⟩, rfl, fun hz => ?_⟩
  rw [sizeGateMend] at hz
  exact ⟨by simp only; omega, by simp only; omega, by simp only; omega, by simp only; omega, by simp only; omega, by simp only; omega⟩
theorem of_GateMendS {t : T} (h : T.is (.sl 6 shGateMend) t) : ∃ l : List GateMend, t = .lst 6 (l.map GateMend.ts) ∧ (t.size ≤ 1048576 → GateMend.OkS l) := of_list (fun ts h => of_GateMend h) h
structure GateObject where
  Kind : List UInt8
  Name : List UInt8
  Team : List UInt8
  Values : List (List UInt8)
  Ending : Bool
  Holds : List (List UInt8)
  Version : Int
def GateObject.ts (x : GateObject) : List T := [.str x.Kind, .str x.Name, .str x.Team, .lst 1 (x.Values.map tStr), .bool x.Ending, .lst 1 (x.Holds.map tStr), .int .i64 x.Version]
abbrev GateObject.vs (x : GateObject) : List V := [.t (.str x.Kind), .t (.str x.Name), .t (.str x.Team), .t (.lst 1 (x.Values.map tStr)), .t (.bool x.Ending), .t (.lst 1 (x.Holds.map tStr)), .t (.int .i64 x.Version)]
theorem GateObject.vs_ts (x : GateObject) : x.ts.map V.t = x.vs := rfl
structure GateObject.Ok (x : GateObject) : Prop where
  Kind : x.Kind.length ≤ 1048576
  Name : x.Name.length ≤ 1048576
  Team : x.Team.length ≤ 1048576
  Values : StrsOk x.Values
  Holds : StrsOk x.Holds
  Version : i64r x.Version
abbrev tGateObjectS (l : List GateObject) : T := .lst 7 (l.map GateObject.ts)
abbrev GateObject.OkS (l : List GateObject) : Prop := l.length ≤ 1048576 ∧ ∀ y ∈ l, y.Ok
theorem of_GateObject {ts : List T} (h : T.isL shGateObject ts) : ∃ x : GateObject, ts = x.ts ∧ (T.sizeL ts ≤ 1048576 → x.Ok) := by
  obtain ⟨n0, n1, n2, n3, n4, n5, n6, rfl, b0, b1, b2, b3, b5, b6⟩ := isGateObject h
  obtain ⟨l3, rfl, c3⟩ := of_strs b3
  obtain ⟨l5, rfl, c5⟩ := of_strs b5
  refine ⟨⟨n0, n1, n2, l3, n4, l5, n6⟩, rfl, fun hz => ?_⟩
  rw [sizeGateObject] at hz
  exact ⟨by simp only; omega, by simp only; omega, by simp only; omega, c3 (by omega), c5 (by omega), wf_i64 b6⟩
theorem of_GateObjectS {t : T} (h : T.is (.sl 7 shGateObject) t) : ∃ l : List GateObject, t = .lst 7 (l.map GateObject.ts) ∧ (t.size ≤ 1048576 → GateObject.OkS l) := of_list (fun ts h => of_GateObject h) h
structure GateLaw where
  Shapes : List GateShape
  Mends : List GateMend
  Teams : List GateTeam
def GateLaw.ts (x : GateLaw) : List T := [.lst 2 (x.Shapes.map GateShape.ts), .lst 6 (x.Mends.map GateMend.ts), .lst 2 (x.Teams.map GateTeam.ts)]
abbrev GateLaw.vs (x : GateLaw) : List V := [.t (.lst 2 (x.Shapes.map GateShape.ts)), .t (.lst 6 (x.Mends.map GateMend.ts)), .t (.lst 2 (x.Teams.map GateTeam.ts))]
theorem GateLaw.vs_ts (x : GateLaw) : x.ts.map V.t = x.vs := rfl
structure GateLaw.Ok (x : GateLaw) : Prop where
  Shapes : GateShape.OkS x.Shapes
  Mends : GateMend.OkS x.Mends
  Teams : GateTeam.OkS x.Teams
abbrev tGateLawS (l : List GateLaw) : T := .lst 3 (l.map GateLaw.ts)
abbrev GateLaw.OkS (l : List GateLaw) : Prop := l.length ≤ 1048576 ∧ ∀ y ∈ l, y.Ok
theorem of_GateLaw {ts : List T} (h : T.isL shGateLaw ts) : ∃ x : GateLaw, ts = x.ts ∧ (T.sizeL ts ≤ 1048576 → x.Ok) := by
  obtain ⟨n0, n1, n2, rfl, b0, b1, b2⟩ := isGateLaw h
  obtain ⟨l0, rfl, c0⟩ := of_GateShapeS b0
  obtain ⟨l1, rfl, c1⟩ := of_GateMendS b1
  obtain ⟨l2, rfl, c2⟩ := of_GateTeamS b2
  refine ⟨⟨l0, l1, l2⟩, rfl, fun hz => ?_⟩
  rw [sizeGateLaw] at hz
  exact ⟨c0 (by omega), c1 (by omega), c2 (by omega)⟩
theorem of_GateLawS {t : T} (h : T.is (.sl 3 shGateLaw) t) : ∃ l : List GateLaw, t = .lst 3 (l.map GateLaw.ts) ∧ (t.size ≤ 1048576 → GateLaw.OkS l) := of_list (fun ts h => of_GateLaw h) h
structure GateGrant where
  Number : Int
  To : List UInt8
  By : List UInt8
  Rule : GateRule
def GateGrant.ts (x : GateGrant) : List T := [.int .i64 x.Number, .str x.To, .str x.By, .lst 1 (x.Rule.Verbs.map tInt), .str x.Rule.Kind, .str x.Rule.Team, .str x.Rule.Prefix]
abbrev GateGrant.vs (x : GateGrant) : List V := [.t (.int .i64 x.Number), .t (.str x.To), .t (.str x.By), .t (.lst 1 (x.Rule.Verbs.map tInt)), .t (.str x.Rule.Kind), .t (.str x.Rule.Team), .t (.str x.Rule.Prefix)]
theorem GateGrant.vs_ts (x : GateGrant) : x.ts.map V.t = x.vs := rfl
structure GateGrant.Ok (x : GateGrant) : Prop where
  Number : i64r x.Number
  To : x.To.length ≤ 1048576
  By : x.By.length ≤ 1048576
  Rule : GateRule.Ok x.Rule
abbrev tGateGrantS (l : List GateGrant) : T := .lst 7 (l.map GateGrant.ts)
abbrev GateGrant.OkS (l : List GateGrant) : Prop := l.length ≤ 1048576 ∧ ∀ y ∈ l, y.Ok
theorem of_GateGrant {ts : List T} (h : T.isL shGateGrant ts) : ∃ x : GateGrant, ts = x.ts ∧ (T.sizeL ts ≤ 1048576 → x.Ok) := by
  obtain ⟨n0, n1, n2, n3, n4, n5, n6, rfl, b0, b1, b2, b3, b4, b5, b6⟩ := isGateGrant h
  obtain ⟨l3, rfl, c3⟩ := of_ints b3
  refine ⟨⟨n0, n1, n2, ⟨l3, n4, n5, n6⟩⟩, rfl, fun hz => ?_⟩
  rw [sizeGateGrant] at hz
  exact ⟨wf_i64 b0, by simp only; omega, by simp only; omega, ⟨c3 (by omega), by simp only; omega, by simp only; omega, by simp only; omega⟩⟩
theorem of_GateGrantS {t : T} (h : T.is (.sl 7 shGateGrant) t) : ∃ l : List GateGrant, t = .lst 7 (l.map GateGrant.ts) ∧ (t.size ≤ 1048576 → GateGrant.OkS l) := of_list (fun ts h => of_GateGrant h) h
structure GateLedger where
  Team : List UInt8
  Resource : List UInt8
  Most : Int
  Free : Int
def GateLedger.ts (x : GateLedger) : List T := [.str x.Team, .str x.Resource, .int .i64 x.Most, .int .i64 x.Free]
abbrev GateLedger.vs (x : GateLedger) : List V := [.t (.str x.Team), .t (.str x.Resource), .t (.int .i64 x.Most), .t (.int .i64 x.Free)]
theorem GateLedger.vs_ts (x : GateLedger) : x.ts.map V.t = x.vs := rfl
structure GateLedger.Ok (x : GateLedger) : Prop where
  Team : x.Team.length ≤ 1048576
  Resource : x.Resource.length ≤ 1048576
  Most : i64r x.Most
  Free : i64r x.Free
abbrev tGateLedgerS (l : List GateLedger) : T := .lst 4 (l.map GateLedger.ts)
abbrev GateLedger.OkS (l : List GateLedger) : Prop := l.length ≤ 1048576 ∧ ∀ y ∈ l, y.Ok
theorem of_GateLedger {ts : List T} (h : T.isL shGateLedger ts) : ∃ x : GateLedger, ts = x.ts ∧ (T.sizeL ts ≤ 1048576 → x.Ok) := by
  obtain ⟨n0, n1, n2, n3, rfl, b0, b1, b2, b3⟩ := isGateLedger h
  refine ⟨⟨n0, n1, n2, n3⟩, rfl, fun hz => ?_⟩
  rw [sizeGateLedger] at hz
  exact ⟨by simp only; omega, by simp only; omega, wf_i64 b2, wf_i64 b3⟩
theorem of_GateLedgerS {t : T} (h : T.is (.sl 4 shGateLedger) t) : ∃ l : List GateLedger, t = .lst 4 (l.map GateLedger.ts) ∧ (t.size ≤ 1048576 → GateLedger.OkS l) := of_list (fun ts h => of_GateLedger h) h
structure GatePurse where
  Door : List UInt8
  Team : List UInt8
  Resource : List UInt8
  Amount : Int
  Until : Int
def GatePurse.ts (x : GatePurse) : List T := [.str x.Door, .str x.Team, .str x.Resource, .int .i64 x.Amount, .int .i64 x.Until]
abbrev GatePurse.vs (x : GatePurse) : List V := [.t (.str x.Door), .t (.str x.Team), .t (.str x.Resource), .t (.int .i64 x.Amount), .t (.int .i64 x.Until)]
theorem GatePurse.vs_ts (x : GatePurse) : x.ts.map V.t = x.vs := rfl
structure GatePurse.Ok (x : GatePurse) : Prop where
  Door : x.Door.length ≤ 1048576
  Team : x.Team.length ≤ 1048576
  Resource : x.Resource.length ≤ 1048576
  Amount : i64r x.Amount
  Until : i64r x.Until
abbrev tGatePurseS (l : List GatePurse) : T := .lst 5 (l.map GatePurse.ts)
abbrev GatePurse.OkS (l : List GatePurse) : Prop := l.length ≤ 1048576 ∧ ∀ y ∈ l, y.Ok
theorem of_GatePurse {ts : List T} (h : T.isL shGatePurse ts) : ∃ x : GatePurse, ts = x.ts ∧ (T.sizeL ts ≤ 1048576 → x.Ok) := by
  obtain ⟨n0, n1, n2, n3, n4, rfl, b0, b1, b2, b3, b4⟩ := isGatePurse h
  refine ⟨⟨n0, n1, n2, n3, n4⟩, rfl, fun hz => ?_⟩
  rw [sizeGatePurse] at hz
  exact ⟨by simp only; omega, by simp only; omega, by simp only; omega, wf_i64 b3, wf_i64 b4⟩
theorem of_GatePurseS {t : T} (h : T.is (.sl 5 shGatePurse) t) : ∃ l : List GatePurse, t = .lst 5 (l.map GatePurse.ts) ∧ (t.size ≤ 1048576 → GatePurse.OkS l) := of_list (fun ts h => of_GatePurse h) h
structure GateBook where
  Now : Int
  Tick : Int
  Given : Int
  Objects : List GateObject
  Grants : List GateGrant
  Ledgers : List GateLedger
  Purses : List GatePurse
def GateBook.ts (x : GateBook) : List T := [.int .i64 x.Now, .int .i64 x.Tick, .int .i64 x.Given, .lst 7 (x.Objects.map GateObject.ts), .lst 7 (x.Grants.map GateGrant.ts), .lst 4 (x.Ledgers.map GateLedger.ts), .lst 5 (x.Purses.map GatePurse.ts)]
abbrev GateBook.vs (x : GateBook) : List V := [.t (.int .i64 x.Now), .t (.int .i64 x.Tick), .t (.int .i64 x.Given), .t (.lst 7 (x.Objects.map GateObject.ts)), .t (.lst 7 (x.Grants.map GateGrant.ts)), .t (.lst 4 (x.Ledgers.map GateLedger.ts)), .t (.lst 5 (x.Purses.map GatePurse.ts))]
theorem GateBook.vs_ts (x : GateBook) : x.ts.map V.t = x.vs := rfl
structure GateBook.Ok (x : GateBook) : Prop where
  Now : i64r x.Now
  Tick : i64r x.Tick
  Given : i64r x.Given
  Objects : GateObject.OkS x.Objects
  Grants : GateGrant.OkS x.Grants
  Ledgers : GateLedger.OkS x.Ledgers
  Purses : GatePurse.OkS x.Purses
abbrev tGateBookS (l : List GateBook) : T := .lst 7 (l.map GateBook.ts)
abbrev GateBook.OkS (l : List GateBook) : Prop := l.length ≤ 1048576 ∧ ∀ y ∈ l, y.Ok
theorem of_GateBook {ts : List T} (h : T.isL shGateBook ts) : ∃ x : GateBook, ts = x.ts ∧ (T.sizeL ts ≤ 1048576 → x.Ok) := by
  obtain ⟨n0, n1, n2, n3, n4, n5, n6, rfl, b0, b1, b2, b3, b4, b5, b6⟩ := isGateBook h
  obtain ⟨l3, rfl, c3⟩ := of_GateObjectS b3
  obtain ⟨l4, rfl, c4⟩ := of_GateGrantS b4
  obtain ⟨l5, rfl, c5⟩ := of_GateLedgerS b5
  obtain ⟨l6, rfl, c6⟩ := of_GatePurseS b6
  refine ⟨⟨n0, n1, n2, l3, l4, l5, l6⟩, rfl, fun hz => ?_⟩
  rw [sizeGateBook] at hz
  exact ⟨wf_i64 b0, wf_i64 b1, wf_i64 b2, c3 (by omega), c4 (by omega), c5 (by omega), c6 (by omega)⟩
theorem of_GateBookS {t : T} (h : T.is (.sl 7 shGateBook) t) : ∃ l : List GateBook, t = .lst 7 (l.map GateBook.ts) ∧ (t.size ≤ 1048576 → GateBook.OkS l) := of_list (fun ts h => of_GateBook h) h
end Go.Proofs.Ytgdmgoidfglobaa.W

end
