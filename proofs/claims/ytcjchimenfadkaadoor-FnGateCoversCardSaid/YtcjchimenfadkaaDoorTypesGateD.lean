/- What the laws' own helpers do with these structs: sizes, copies, comparing (printed by laws.py). Conditions: none. -/
/- The program's structs as Lean structures, their trees (printed by types.py). Conditions: none. -/
import Derived.Test.YtcjchimenfadkaaDoorAb3
import Derived.IntWalk
import Derived.Test.YtcjchimenfadkaaDoorProg
import Derived.KernelRfl
set_option linter.unusedSimpArgs false
set_option linter.unusedVariables false
set_option linter.defProp false

section
open Go Go.Ab
set_option maxHeartbeats 4000000
set_option maxRecDepth 20000
namespace Go.Proofs.YtcjchimenfadkaaDoor.W
end Go.Proofs.YtcjchimenfadkaaDoor.W

end


section
open Go Go.Ab
namespace Go.Proofs.YtcjchimenfadkaaDoor.W
structure GateTeam where
  Name : List UInt8
  Over : List UInt8
def GateTeam.ts (x : GateTeam) : List T := [.str x.Name, .str x.Over]
abbrev GateTeam.vs (x : GateTeam) : List V := [.t (.str x.Name), .t (.str x.Over)]
structure GateTeam.Ok (x : GateTeam) : Prop where
  Name : x.Name.length ≤ 1048576
  Over : x.Over.length ≤ 1048576
abbrev tGateTeamS (l : List GateTeam) : T := .lst 2 (l.map GateTeam.ts)
abbrev GateTeam.OkS (l : List GateTeam) : Prop := l.length ≤ 1048576 ∧ ∀ y ∈ l, y.Ok
structure GateRule where
  Verbs : List Int
  Kind : List UInt8
  Team : List UInt8
  Prefix : List UInt8
def GateRule.ts (x : GateRule) : List T := [.lst 1 (x.Verbs.map tInt), .str x.Kind, .str x.Team, .str x.Prefix]
abbrev GateRule.vs (x : GateRule) : List V := [.t (.lst 1 (x.Verbs.map tInt)), .t (.str x.Kind), .t (.str x.Team), .t (.str x.Prefix)]
structure GateRule.Ok (x : GateRule) : Prop where
  Verbs : IntsOk x.Verbs
  Kind : x.Kind.length ≤ 1048576
  Team : x.Team.length ≤ 1048576
  Prefix : x.Prefix.length ≤ 1048576
abbrev tGateRuleS (l : List GateRule) : T := .lst 4 (l.map GateRule.ts)
abbrev GateRule.OkS (l : List GateRule) : Prop := l.length ≤ 1048576 ∧ ∀ y ∈ l, y.Ok
structure GateAct where
  Verb : Int
  Kind : List UInt8
  Team : List UInt8
  Name : List UInt8
def GateAct.ts (x : GateAct) : List T := [.int .i64 x.Verb, .str x.Kind, .str x.Team, .str x.Name]
abbrev GateAct.vs (x : GateAct) : List V := [.t (.int .i64 x.Verb), .t (.str x.Kind), .t (.str x.Team), .t (.str x.Name)]
structure GateAct.Ok (x : GateAct) : Prop where
  Verb : i64r x.Verb
  Kind : x.Kind.length ≤ 1048576
  Team : x.Team.length ≤ 1048576
  Name : x.Name.length ≤ 1048576
abbrev GateAct.OkS (l : List GateAct) : Prop := l.length ≤ 1048576 ∧ ∀ y ∈ l, y.Ok
structure GateField where
  Name : List UInt8
  Kind : Int
  Least : Int
  Most : Int
  Words : List (List UInt8)
  To : List UInt8
  Role : Int
  Must : Bool
  Fixed : Bool
  Default : List UInt8
  Weighs : List UInt8
def GateField.ts (x : GateField) : List T := [.str x.Name, .int .i64 x.Kind, .int .i64 x.Least, .int .i64 x.Most, .lst 1 (x.Words.map tStr), .str x.To, .int .i64 x.Role, .bool x.Must, .bool x.Fixed, .str x.Default, .str x.Weighs]
abbrev GateField.vs (x : GateField) : List V := [.t (.str x.Name), .t (.int .i64 x.Kind), .t (.int .i64 x.Least), .t (.int .i64 x.Most), .t (.lst 1 (x.Words.map tStr)), .t (.str x.To), .t (.int .i64 x.Role), .t (.bool x.Must), .t (.bool x.Fixed), .t (.str x.Default), .t (.str x.Weighs)]
structure GateField.Ok (x : GateField) : Prop where
  Name : x.Name.length ≤ 1048576
  Kind : i64r x.Kind
  Least : i64r x.Least
  Most : i64r x.Most
  Words : StrsOk x.Words
  To : x.To.length ≤ 1048576
  Role : i64r x.Role
  Default : x.Default.length ≤ 1048576
  Weighs : x.Weighs.length ≤ 1048576
abbrev GateField.OkS (l : List GateField) : Prop := l.length ≤ 1048576 ∧ ∀ y ∈ l, y.Ok
structure GateShape where
  Kind : List UInt8
  Fields : List GateField
def GateShape.ts (x : GateShape) : List T := [.str x.Kind, .lst 11 (x.Fields.map GateField.ts)]
abbrev GateShape.vs (x : GateShape) : List V := [.t (.str x.Kind), .t (.lst 11 (x.Fields.map GateField.ts))]
structure GateShape.Ok (x : GateShape) : Prop where
  Kind : x.Kind.length ≤ 1048576
  Fields : GateField.OkS x.Fields
abbrev GateShape.OkS (l : List GateShape) : Prop := l.length ≤ 1048576 ∧ ∀ y ∈ l, y.Ok
structure GateObject where
  Kind : List UInt8
  Name : List UInt8
  Team : List UInt8
  Values : List (List UInt8)
  Ending : Bool
  Holds : List (List UInt8)
  Version : Int
def GateObject.ts (x : GateObject) : List T := [.str x.Kind, .str x.Name, .str x.Team, .lst 1 (x.Values.map tStr), .bool x.Ending, .lst 1 (x.Holds.map tStr), .int .i64 x.Version]
abbrev GateObject.vs (x : GateObject) : List V := [.t (.str x.Kind), .t (.str x.Name), .t (.str x.Team), .t (.lst 1 (x.Values.map tStr)), .t (.bool x.Ending), .t (.lst 1 (x.Holds.map tStr)), .t (.int .i64 x.Version)]
structure GateObject.Ok (x : GateObject) : Prop where
  Kind : x.Kind.length ≤ 1048576
  Name : x.Name.length ≤ 1048576
  Team : x.Team.length ≤ 1048576
  Values : StrsOk x.Values
  Holds : StrsOk x.Holds
  Version : i64r x.Version
abbrev GateObject.OkS (l : List GateObject) : Prop := l.length ≤ 1048576 ∧ ∀ y ∈ l, y.Ok
end Go.Proofs.YtcjchimenfadkaaDoor.W

end
