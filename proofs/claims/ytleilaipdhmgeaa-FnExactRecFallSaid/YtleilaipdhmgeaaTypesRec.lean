/- The program's structs as Lean structures, their trees (printed by types.py). Conditions: none. -/
import Derived.Test.YtleilaipdhmgeaaAbT
import Derived.Test.YtleilaipdhmgeaaLawRec2
set_option linter.unusedSimpArgs false
set_option linter.unusedVariables false
set_option linter.defProp false
open Go Go.Ab
namespace Go.Proofs.Ytleilaipdhmgeaa.W
structure RecSlot where
  Ballot : Int
  Text : List UInt8
def RecSlot.ts (x : RecSlot) : List T := [.int .i64 x.Ballot, .str x.Text]
abbrev RecSlot.vs (x : RecSlot) : List V := [.t (.int .i64 x.Ballot), .t (.str x.Text)]
theorem RecSlot.vs_ts (x : RecSlot) : x.ts.map V.t = x.vs := rfl
structure RecSlot.Ok (x : RecSlot) : Prop where
  Ballot : i64r x.Ballot
  Text : x.Text.length ≤ 1048576
abbrev tRecSlotS (l : List RecSlot) : T := .lst 2 (l.map RecSlot.ts)
abbrev RecSlot.OkS (l : List RecSlot) : Prop := l.length ≤ 1048576 ∧ ∀ y ∈ l, y.Ok
theorem of_RecSlot {ts : List T} (h : T.isL shRecSlot ts) : ∃ x : RecSlot, ts = x.ts ∧ (T.sizeL ts ≤ 1048576 → x.Ok) := by
  obtain ⟨n0, n1, rfl, b0, b1⟩ := isRecSlot h
  refine ⟨⟨n0, n1⟩, rfl, fun hz => ?_⟩
  rw [sizeRecSlot] at hz
  exact ⟨wf_i64 b0, by simp only; omega⟩
theorem of_RecSlotS {t : T} (h : T.is (.sl 2 shRecSlot) t) : ∃ l : List RecSlot, t = .lst 2 (l.map RecSlot.ts) ∧ (t.size ≤ 1048576 → RecSlot.OkS l) := of_list (fun ts h => of_RecSlot h) h
structure RecDisk where
  Promise : Int
  Known : Int
  Slots : List RecSlot
def RecDisk.ts (x : RecDisk) : List T := [.int .i64 x.Promise, .int .i64 x.Known, .lst 2 (x.Slots.map RecSlot.ts)]
abbrev RecDisk.vs (x : RecDisk) : List V := [.t (.int .i64 x.Promise), .t (.int .i64 x.Known), .t (.lst 2 (x.Slots.map RecSlot.ts))]
theorem RecDisk.vs_ts (x : RecDisk) : x.ts.map V.t = x.vs := rfl
structure RecDisk.Ok (x : RecDisk) : Prop where
  Promise : i64r x.Promise
  Known : i64r x.Known
  Slots : RecSlot.OkS x.Slots
abbrev tRecDiskS (l : List RecDisk) : T := .lst 3 (l.map RecDisk.ts)
abbrev RecDisk.OkS (l : List RecDisk) : Prop := l.length ≤ 1048576 ∧ ∀ y ∈ l, y.Ok
theorem of_RecDisk {ts : List T} (h : T.isL shRecDisk ts) : ∃ x : RecDisk, ts = x.ts ∧ (T.sizeL ts ≤ 1048576 → x.Ok) := by
  obtain ⟨n0, n1, n2, rfl, b0, b1, b2⟩ := isRecDisk h
  obtain ⟨l2, rfl, c2⟩ := of_RecSlotS b2
  refine ⟨⟨n0, n1, l2⟩, rfl, fun hz => ?_⟩
  rw [sizeRecDisk] at hz
  exact ⟨wf_i64 b0, wf_i64 b1, c2 (by omega)⟩
theorem of_RecDiskS {t : T} (h : T.is (.sl 3 shRecDisk) t) : ∃ l : List RecDisk, t = .lst 3 (l.map RecDisk.ts) ∧ (t.size ≤ 1048576 → RecDisk.OkS l) := of_list (fun ts h => of_RecDisk h) h
structure RecMessage where
  Kind : Int
  From : Int
  To : Int
  Ballot : Int
  Index : Int
  Known : Int
  Text : List UInt8
  Slots : List RecSlot
def RecMessage.ts (x : RecMessage) : List T := [.int .i64 x.Kind, .int .i64 x.From, .int .i64 x.To, .int .i64 x.Ballot, .int .i64 x.Index, .int .i64 x.Known, .str x.Text, .lst 2 (x.Slots.map RecSlot.ts)]
abbrev RecMessage.vs (x : RecMessage) : List V := [.t (.int .i64 x.Kind), .t (.int .i64 x.From), .t (.int .i64 x.To), .t (.int .i64 x.Ballot), .t (.int .i64 x.Index), .t (.int .i64 x.Known), .t (.str x.Text), .t (.lst 2 (x.Slots.map RecSlot.ts))]
theorem RecMessage.vs_ts (x : RecMessage) : x.ts.map V.t = x.vs := rfl
structure RecMessage.Ok (x : RecMessage) : Prop where
  Kind : i64r x.Kind
  From : i64r x.From
  To : i64r x.To
  Ballot : i64r x.Ballot
  Index : i64r x.Index
  Known : i64r x.Known
  Text : x.Text.length ≤ 1048576
  Slots : RecSlot.OkS x.Slots
abbrev tRecMessageS (l : List RecMessage) : T := .lst 8 (l.map RecMessage.ts)
abbrev RecMessage.OkS (l : List RecMessage) : Prop := l.length ≤ 1048576 ∧ ∀ y ∈ l, y.Ok
theorem of_RecMessage {ts : List T} (h : T.isL shRecMessage ts) : ∃ x : RecMessage, ts = x.ts ∧ (T.sizeL ts ≤ 1048576 → x.Ok) := by
  obtain ⟨n0, n1, n2, n3, n4, n5, n6, n7, rfl, b0, b1, b2, b3, b4, b5, b6, b7⟩ := isRecMessage h
  obtain ⟨l7, rfl, c7⟩ := of_RecSlotS b7
  refine ⟨⟨n0, n1, n2, n3, n4, n5, n6, l7⟩, rfl, fun hz => ?_⟩
  rw [sizeRecMessage] at hz
  exact ⟨wf_i64 b0, wf_i64 b1, wf_i64 b2, wf_i64 b3, wf_i64 b4, wf_i64 b5, by simp only; omega, c7 (by omega)⟩
theorem of_RecMessageS {t : T} (h : T.is (.sl 8 shRecMessage) t) : ∃ l : List RecMessage, t = .lst 8 (l.map RecMessage.ts) ∧ (t.size ≤ 1048576 → RecMessage.OkS l) := of_list (fun ts h => of_RecMessage h) h
structure RecAck where
  Index : Int
  From : List Int
def RecAck.ts (x : RecAck) : List T := [.int .i64 x.Index, .lst 1 (x.From.map tInt)]
abbrev RecAck.vs (x : RecAck) : List V := [.t (.int .i64 x.Index), .t (.lst 1 (x.From.map tInt))]
theorem RecAck.vs_ts (x : RecAck) : x.ts.map V.t = x.vs := rfl
structure RecAck.Ok (x : RecAck) : Prop where
  Index : i64r x.Index
  From : IntsOk x.From
abbrev tRecAckS (l : List RecAck) : T := .lst 2 (l.map RecAck.ts)
abbrev RecAck.OkS (l : List RecAck) : Prop := l.length ≤ 1048576 ∧ ∀ y ∈ l, y.Ok
theorem of_RecAck {ts : List T} (h : T.isL shRecAck ts) : ∃ x : RecAck, ts = x.ts ∧ (T.sizeL ts ≤ 1048576 → x.Ok) := by
  obtain ⟨n0, n1, rfl, b0, b1⟩ := isRecAck h
  obtain ⟨l1, rfl, c1⟩ := of_ints b1
  refine ⟨⟨n0, l1⟩, rfl, fun hz => ?_⟩
  rw [sizeRecAck] at hz
  exact ⟨wf_i64 b0, c1 (by omega)⟩
theorem of_RecAckS {t : T} (h : T.is (.sl 2 shRecAck) t) : ∃ l : List RecAck, t = .lst 2 (l.map RecAck.ts) ∧ (t.size ≤ 1048576 → RecAck.OkS l) := of_list (fun ts h => of_RecAck h) h
structure RecFix where
  Index : Int
  Text : List UInt8
def RecFix.ts (x : RecFix) : List T := [.int .i64 x.Index, .str x.Text]
abbrev RecFix.vs (x : RecFix) : List V := [.t (.int .i64 x.Index), .t (.str x.Text)]
theorem RecFix.vs_ts (x : RecFix) : x.ts.map V.t = x.vs := rfl
structure RecFix.Ok (x : RecFix) : Prop where
  Index : i64r x.Index
  Text : x.Text.length ≤ 1048576
abbrev tRecFixS (l : List RecFix) : T := .lst 2 (l.map RecFix.ts)
abbrev RecFix.OkS (l : List RecFix) : Prop := l.length ≤ 1048576 ∧ ∀ y ∈ l, y.Ok
theorem of_RecFix {ts : List T} (h : T.isL shRecFix ts) : ∃ x : RecFix, ts = x.ts ∧ (T.sizeL ts ≤ 1048576 → x.Ok) := by
  obtain ⟨n0, n1, rfl, b0, b1⟩ := isRecFix h
  refine ⟨⟨n0, n1⟩, rfl, fun hz => ?_⟩
  rw [sizeRecFix] at hz
  exact ⟨wf_i64 b0, by simp only; omega⟩
theorem of_RecFixS {t : T} (h : T.is (.sl 2 shRecFix) t) : ∃ l : List RecFix, t = .lst 2 (l.map RecFix.ts) ∧ (t.size ≤ 1048576 → RecFix.OkS l) := of_list (fun ts h => of_RecFix h) h
structure Recorder where
  Number : Int
  Of : Int
  Up : Bool
  Safe : RecDisk
  Disk : RecDisk
  Held : List RecMessage
  Wishes : List (List UInt8)
  Lead : Bool
  Trying : Bool
  Ballot : Int
  Yes : List Int
  Best : List RecSlot
  Acks : List RecAck
  Heard : Int
def Recorder.ts (x : Recorder) : List T := [.int .i64 x.Number, .int .i64 x.Of, .bool x.Up, .int .i64 x.Safe.Promise, .int .i64 x.Safe.Known, .lst 2 (x.Safe.Slots.map RecSlot.ts), .int .i64 x.Disk.Promise, .int .i64 x.Disk.Known, .lst 2 (x.Disk.Slots.map RecSlot.ts), .lst 8 (x.Held.map RecMessage.ts), .lst 1 (x.Wishes.map tStr), .bool x.Lead, .bool x.Trying, .int .i64 x.Ballot, .lst 1 (x.Yes.map tInt), .lst 2 (x.Best.map RecSlot.ts), .lst 2 (x.Acks.map RecAck.ts), .int .i64 x.Heard]
abbrev Recorder.vs (x : Recorder) : List V := [.t (.int .i64 x.Number), .t (.int .i64 x.Of), .t (.bool x.Up), .t (.int .i64 x.Safe.Promise), .t (.int .i64 x.Safe.Known), .t (.lst 2 (x.Safe.Slots.map RecSlot.ts)), .t (.int .i64 x.Disk.Promise), .t (.int .i64 x.Disk.Known), .t (.lst 2 (x.Disk.Slots.map RecSlot.ts)), .t (.lst 8 (x.Held.map RecMessage.ts)), .t (.lst 1 (x.Wishes.map tStr)), .t (.bool x.Lead), .t (.bool x.Trying), .t (.int .i64 x.Ballot), .t (.lst 1 (x.Yes.map tInt)), .t (.lst 2 (x.Best.map RecSlot.ts)), .t (.lst 2 (x.Acks.map RecAck.ts)), .t (.int .i64 x.Heard)]
theorem Recorder.vs_ts (x : Recorder) : x.ts.map V.t = x.vs := rfl
structure Recorder.Ok (x : Recorder) : Prop where
  Number : i64r x.Number
  Of : i64r x.Of
  Safe : RecDisk.Ok x.Safe
  Disk : RecDisk.Ok x.Disk
  Held : RecMessage.OkS x.Held
  Wishes : StrsOk x.Wishes
  Ballot : i64r x.Ballot
  Yes : IntsOk x.Yes
  Best : RecSlot.OkS x.Best
  Acks : RecAck.OkS x.Acks
  Heard : i64r x.Heard
abbrev tRecorderS (l : List Recorder) : T := .lst 18 (l.map Recorder.ts)
abbrev Recorder.OkS (l : List Recorder) : Prop := l.length ≤ 1048576 ∧ ∀ y ∈ l, y.Ok
theorem of_Recorder {ts : List T} (h : T.isL shRecorder ts) : ∃ x : Recorder, ts = x.ts ∧ (T.sizeL ts ≤ 1048576 → x.Ok) := by
  obtain ⟨n0, n1, n2, n3, n4, n5, n6, n7, n8, n9, n10, n11, n12, n13, n14, n15, n16, n17, rfl, b0, b1, b3, b4, b5, b6, b7, b8, b9, b10, b13, b14, b15, b16, b17⟩ := isRecorder h
  obtain ⟨l5, rfl, c5⟩ := of_RecSlotS b5
  obtain ⟨l8, rfl, c8⟩ := of_RecSlotS b8
  obtain ⟨l9, rfl, c9⟩ := of_RecMessageS b9
  obtain ⟨l10, rfl, c10⟩ := of_strs b10
  obtain ⟨l14, rfl, c14⟩ := of_ints b14
  obtain ⟨l15, rfl, c15⟩ := of_RecSlotS b15
  obtain ⟨l16, rfl, c16⟩ := of_RecAckS b16
  refine ⟨⟨n0, n1, n2, ⟨n3, n4, l5⟩, ⟨n6, n7, l8⟩, l9, l10, n11, n12, n13, l14, l15, l16, n17⟩, rfl, fun hz => ?_⟩
  rw [sizeRecorder] at hz
  exact ⟨wf_i64 b0, wf_i64 b1, ⟨wf_i64 b3, wf_i64 b4, c5 (by omega)⟩, ⟨wf_i64 b6, wf_i64 b7, c8 (by omega)⟩, c9 (by omega), c10 (by omega), wf_i64 b13, c14 (by omega), c15 (by omega), c16 (by omega), wf_i64 b17⟩
theorem of_RecorderS {t : T} (h : T.is (.sl 18 shRecorder) t) : ∃ l : List Recorder, t = .lst 18 (l.map Recorder.ts) ∧ (t.size ≤ 1048576 → Recorder.OkS l) := of_list (fun ts h => of_Recorder h) h
structure RecWorld where
  Recorders : List Recorder
  Flight : List RecMessage
  Fixed : List RecFix
def RecWorld.ts (x : RecWorld) : List T := [.lst 18 (x.Recorders.map Recorder.ts), .lst 8 (x.Flight.map RecMessage.ts), .lst 2 (x.Fixed.map RecFix.ts)]
abbrev RecWorld.vs (x : RecWorld) : List V := [.t (.lst 18 (x.Recorders.map Recorder.ts)), .t (.lst 8 (x.Flight.map RecMessage.ts)), .t (.lst 2 (x.Fixed.map RecFix.ts))]
theorem RecWorld.vs_ts (x : RecWorld) : x.ts.map V.t = x.vs := rfl
structure RecWorld.Ok (x : RecWorld) : Prop where
  Recorders : Recorder.OkS x.Recorders
  Flight : RecMessage.OkS x.Flight
  Fixed : RecFix.OkS x.Fixed
abbrev tRecWorldS (l : List RecWorld) : T := .lst 3 (l.map RecWorld.ts)
abbrev RecWorld.OkS (l : List RecWorld) : Prop := l.length ≤ 1048576 ∧ ∀ y ∈ l, y.Ok
theorem of_RecWorld {ts : List T} (h : T.isL shRecWorld ts) : ∃ x : RecWorld, ts = x.ts ∧ (T.sizeL ts ≤ 1048576 → x.Ok) := by
  obtain ⟨n0, n1, n2, rfl, b0, b1, b2⟩ := isRecWorld h
  obtain ⟨l0, rfl, c0⟩ := of_RecorderS b0
  obtain ⟨l1, rfl, c1⟩ := of_RecMessageS b1
  obtain ⟨l2, rfl, c2⟩ := of_RecFixS b2
  refine ⟨⟨l0, l1, l2⟩, rfl, fun hz => ?_⟩
  rw [sizeRecWorld] at hz
  exact ⟨c0 (by omega), c1 (by omega), c2 (by omega)⟩
theorem of_RecWorldS {t : T} (h : T.is (.sl 3 shRecWorld) t) : ∃ l : List RecWorld, t = .lst 3 (l.map RecWorld.ts) ∧ (t.size ≤ 1048576 → RecWorld.OkS l) := of_list (fun ts h => of_RecWorld h) h
end Go.Proofs.Ytleilaipdhmgeaa.W
