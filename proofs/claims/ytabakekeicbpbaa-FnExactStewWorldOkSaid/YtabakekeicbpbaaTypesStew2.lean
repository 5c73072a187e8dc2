/- The program's structs as Lean structures, their trees (printed by types.py). Conditions: none. -/
/- The program's structs as Lean structures, their trees (printed by types.py). Conditions: none. -/
import Derived.Test.YtabakekeicbpbaaAb3
import Derived.Test.YtabakekeicbpbaaLawStew2
set_option linter.unusedSimpArgs false
set_option linter.unusedVariables false
set_option linter.defProp false

section
open Go Go.Ab
namespace Go.Proofs.Ytabakekeicbpbaa.W
structure StewService where
  Name : List UInt8
  Version : Int
  Gone : Bool
  Image : Int
  Want : Int
  Down : Int
  Over : Int
  Next : Int
  Per : Int
  Least : Int
  Most : Int
  Load : Int
  Cool : Int
def StewService.ts (x : StewService) : List T := [.str x.Name, .int .i64 x.Version, .bool x.Gone, .int .i64 x.Image, .int .i64 x.Want, .int .i64 x.Down, .int .i64 x.Over, .int .i64 x.Next, .int .i64 x.Per, .int .i64 x.Least, .int .i64 x.Most, .int .i64 x.Load, .int .i64 x.Cool]
abbrev StewService.vs (x : StewService) : List V := [.t (.str x.Name), .t (.int .i64 x.Version), .t (.bool x.Gone), .t (.int .i64 x.Image), .t (.int .i64 x.Want), .t (.int .i64 x.Down), .t (.int .i64 x.Over), .t (.int .i64 x.Next), .t (.int .i64 x.Per), .t (.int .i64 x.Least), .t (.int .i64 x.Most), .t (.int .i64 x.Load), .t (.int .i64 x.Cool)]
theorem StewService.vs_ts (x : StewService) : x.ts.map V.t = x.vs := rfl
structure StewService.Ok (x : StewService) : Prop where
  Name : x.Name.length ≤ 1048576
  Version : i64r x.Version
  Image : i64r x.Image
  Want : i64r x.Want
  Down : i64r x.Down
  Over : i64r x.Over
  Next : i64r x.Next
  Per : i64r x.Per
  Least : i64r x.Least
  Most : i64r x.Most
  Load : i64r x.Load
  Cool : i64r x.Cool
abbrev tStewServiceS (l : List StewService) : T := .lst 13 (l.map StewService.ts)
abbrev StewService.OkS (l : List StewService) : Prop := l.length ≤ 1048576 ∧ ∀ y ∈ l, y.Ok
theorem of_StewService {ts : List T} (h : T.isL shStewService ts) : ∃ x : StewService, ts = x.ts ∧ (T.sizeL ts ≤ 1048576 → x.Ok) := by
  obtain ⟨n0, n1, n2, n3, n4, n5, n6, n7, n8, n9, n10, n11, n12, rfl, b0, b1, b3, b4, b5, b6, b7, b8, b9, b10, b11, b12⟩ := isStewService h
  refine ⟨⟨n0, n1, n2, n3, n4, n5, n6, n7, n8, n9, n10, n11, n12⟩, rfl, fun hz => ?_⟩
  rw [sizeStewService] at hz
  exact ⟨by simp only; omega, wf_i64 b1, wf_i64 b3, wf_i64 b4, wf_i64 b5, wf_i64 b6, wf_i64 b7, wf_i64 b8, wf_i64 b9, wf_i64 b10, wf_i64 b11, wf_i64 b12⟩
theorem of_StewServiceS {t : T} (h : T.is (.sl 13 shStewService) t) : ∃ l : List StewService, t = .lst 13 (l.map StewService.ts) ∧ (t.size ≤ 1048576 → StewService.OkS l) := of_list (fun ts h => of_StewService h) h
structure StewCopy where
  Service : List UInt8
  Number : Int
  Version : Int
  Image : Int
  State : Int
  Ending : Bool
  Berth : List UInt8
def StewCopy.ts (x : StewCopy) : List T := [.str x.Service, .int .i64 x.Number, .int .i64 x.Version, .int .i64 x.Image, .int .i64 x.State, .bool x.Ending, .str x.Berth]
abbrev StewCopy.vs (x : StewCopy) : List V := [.t (.str x.Service), .t (.int .i64 x.Number), .t (.int .i64 x.Version), .t (.int .i64 x.Image), .t (.int .i64 x.State), .t (.bool x.Ending), .t (.str x.Berth)]
theorem StewCopy.vs_ts (x : StewCopy) : x.ts.map V.t = x.vs := rfl
structure StewCopy.Ok (x : StewCopy) : Prop where
  Service : x.Service.length ≤ 1048576
  Number : i64r x.Number
  Version : i64r x.Version
  Image : i64r x.Image
  State : i64r x.State
  Berth : x.Berth.length ≤ 1048576
abbrev tStewCopyS (l : List StewCopy) : T := .lst 7 (l.map StewCopy.ts)
abbrev StewCopy.OkS (l : List StewCopy) : Prop := l.length ≤ 1048576 ∧ ∀ y ∈ l, y.Ok
theorem of_StewCopy {ts : List T} (h : T.isL shStewCopy ts) : ∃ x : StewCopy, ts = x.ts ∧ (T.sizeL ts ≤ 1048576 → x.Ok) := by
  obtain ⟨n0, n1, n2, n3, n4, n5, n6, rfl, b0, b1, b2, b3, b4, b6⟩ := isStewCopy h
  refine ⟨⟨n0, n1, n2, n3, n4, n5, n6⟩, rfl, fun hz => ?_⟩
  rw [sizeStewCopy] at hz
  exact ⟨by simp only; omega, wf_i64 b1, wf_i64 b2, wf_i64 b3, wf_i64 b4, by simp only; omega⟩
theorem of_StewCopyS {t : T} (h : T.is (.sl 7 shStewCopy) t) : ∃ l : List StewCopy, t = .lst 7 (l.map StewCopy.ts) ∧ (t.size ≤ 1048576 → StewCopy.OkS l) := of_list (fun ts h => of_StewCopy h) h
structure StewBerth where
  Name : List UInt8
  Drain : Bool
def StewBerth.ts (x : StewBerth) : List T := [.str x.Name, .bool x.Drain]
abbrev StewBerth.vs (x : StewBerth) : List V := [.t (.str x.Name), .t (.bool x.Drain)]
theorem StewBerth.vs_ts (x : StewBerth) : x.ts.map V.t = x.vs := rfl
structure StewBerth.Ok (x : StewBerth) : Prop where
  Name : x.Name.length ≤ 1048576
abbrev tStewBerthS (l : List StewBerth) : T := .lst 2 (l.map StewBerth.ts)
abbrev StewBerth.OkS (l : List StewBerth) : Prop := l.length ≤ 1048576 ∧ ∀ y ∈ l, y.Ok
theorem of_StewBerth {ts : List T} (h : T.isL shStewBerth ts) : ∃ x : StewBerth, ts = x.ts ∧ (T.sizeL ts ≤ 1048576 → x.Ok) := by
  obtain ⟨n0, n1, rfl, b0⟩ := isStewBerth h
  refine ⟨⟨n0, n1⟩, rfl, fun hz => ?_⟩
  rw [sizeStewBerth] at hz
  exact ⟨by simp only; omega⟩
theorem of_StewBerthS {t : T} (h : T.is (.sl 2 shStewBerth) t) : ∃ l : List StewBerth, t = .lst 2 (l.map StewBerth.ts) ∧ (t.size ≤ 1048576 → StewBerth.OkS l) := of_list (fun ts h => of_StewBerth h) h
structure StewBook where
  Now : Int
  Services : List StewService
  Copies : List StewCopy
  Berths : List StewBerth
def StewBook.ts (x : StewBook) : List T := [.int .i64 x.Now, .lst 13 (x.Services.map StewService.ts), .lst 7 (x.Copies.map StewCopy.ts), .lst 2 (x.Berths.map StewBerth.ts)]
abbrev StewBook.vs (x : StewBook) : List V := [.t (.int .i64 x.Now), .t (.lst 13 (x.Services.map StewService.ts)), .t (.lst 7 (x.Copies.map StewCopy.ts)), .t (.lst 2 (x.Berths.map StewBerth.ts))]
theorem StewBook.vs_ts (x : StewBook) : x.ts.map V.t = x.vs := rfl
structure StewBook.Ok (x : StewBook) : Prop where
  Now : i64r x.Now
  Services : StewService.OkS x.Services
  Copies : StewCopy.OkS x.Copies
  Berths : StewBerth.OkS x.Berths
abbrev tStewBookS (l : List StewBook) : T := .lst 4 (l.map StewBook.ts)
abbrev StewBook.OkS (l : List StewBook) : Prop := l.length ≤ 1048576 ∧ ∀ y ∈ l, y.Ok
theorem of_StewBook {ts : List T} (h : T.isL shStewBook ts) : ∃ x : StewBook, ts = x.ts ∧ (T.sizeL ts ≤ 1048576 → x.Ok) := by
  obtain ⟨n0, n1, n2, n3, rfl, b0, b1, b2, b3⟩ := isStewBook h
  obtain ⟨l1, rfl, c1⟩ := of_StewServiceS b1
  obtain ⟨l2, rfl, c2⟩ := of_StewCopyS b2
  obtain ⟨l3, rfl, c3⟩ := of_StewBerthS b3
  refine ⟨⟨n0, l1, l2, l3⟩, rfl, fun hz => ?_⟩
  rw [sizeStewBook] at hz
  exact ⟨wf_i64 b0, c1 (by omega), c2 (by omega), c3 (by omega)⟩
theorem of_StewBookS {t : T} (h : T.is (.sl 4 shStewBook) t) : ∃ l : List StewBook, t = .lst 4 (l.map StewBook.ts) ∧ (t.size ≤ 1048576 → StewBook.OkS l) := of_list (fun ts h => of_StewBook h) h
end Go.Proofs.Ytabakekeicbpbaa.W

end


section
open Go Go.Ab
namespace Go.Proofs.Ytabakekeicbpbaa.W
structure StewWorld where
  Past : List StewBook
  Book : StewBook
def StewWorld.ts (x : StewWorld) : List T := [.lst 4 (x.Past.map StewBook.ts), .int .i64 x.Book.Now, .lst 13 (x.Book.Services.map StewService.ts), .lst 7 (x.Book.Copies.map StewCopy.ts), .lst 2 (x.Book.Berths.map StewBerth.ts)]
abbrev StewWorld.vs (x : StewWorld) : List V := [.t (.lst 4 (x.Past.map StewBook.ts)), .t (.int .i64 x.Book.Now), .t (.lst 13 (x.Book.Services.map StewService.ts)), .t (.lst 7 (x.Book.Copies.map StewCopy.ts)), .t (.lst 2 (x.Book.Berths.map StewBerth.ts))]
theorem StewWorld.vs_ts (x : StewWorld) : x.ts.map V.t = x.vs := rfl
structure StewWorld.Ok (x : StewWorld) : Prop where
  Past : StewBook.OkS x.Past
  Book : StewBook.Ok x.Book
abbrev tStewWorldS (l : List StewWorld) : T := .lst 5 (l.map StewWorld.ts)
abbrev StewWorld.OkS (l : List StewWorld) : Prop := l.length ≤ 1048576 ∧ ∀ y ∈ l, y.Ok
theorem of_StewWorld {ts : List T} (h : T.isL shStewWorld ts) : ∃ x : StewWorld, ts = x.ts ∧ (T.sizeL ts ≤ 1048576 → x.Ok) := by
  obtain ⟨n0, n1, n2, n3, n4, rfl, b0, b1, b2, b3, b4⟩ := isStewWorld h
  obtain ⟨l0, rfl, c0⟩ := of_StewBookS b0
  obtain ⟨l2, rfl, c2⟩ := of_StewServiceS b2
  obtain ⟨l3, rfl, c3⟩ := of_StewCopyS b3
  obtain ⟨l4, rfl, c4⟩ := of_StewBerthS b4
  refine ⟨⟨l0, ⟨n1, l2, l3, l4⟩⟩, rfl, fun hz => ?_⟩
  rw [sizeStewWorld] at hz
  exact ⟨c0 (by omega), ⟨wf_i64 b1, c2 (by omega), c3 (by omega), c4 (by omega)⟩⟩
theorem of_StewWorldS {t : T} (h : T.is (.sl 5 shStewWorld) t) : ∃ l : List StewWorld, t = .lst 5 (l.map StewWorld.ts) ∧ (t.size ≤ 1048576 → StewWorld.OkS l) := of_list (fun ts h => of_StewWorld h) h
end Go.Proofs.Ytabakekeicbpbaa.W

end
