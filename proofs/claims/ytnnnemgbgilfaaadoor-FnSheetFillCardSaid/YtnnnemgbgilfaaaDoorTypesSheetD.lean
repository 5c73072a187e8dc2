/- What the laws' own helpers do with these structs: sizes, copies, comparing (printed by laws.py). Conditions: none. -/
/- The program's structs as Lean structures, their trees (printed by types.py). Conditions: none. -/
import Derived.Test.YtnnnemgbgilfaaaDoorAb3
import Derived.IntWalk
import Derived.Test.YtnnnemgbgilfaaaDoorProg
import Derived.KernelRfl
set_option linter.unusedSimpArgs false
set_option linter.unusedVariables false
set_option linter.defProp false
section
open Go Go.Ab
set_option maxHeartbeats 4000000
set_option maxRecDepth 20000
namespace Go.Proofs.YtnnnemgbgilfaaaDoor.W
theorem sizeSheetBlock {n0} {n1} {n2}:T.sizeL [(.str n0),(.str n1),n2]=n0.length+n1.length+n2.size:=by
 simp only [sizeL_cons,sizeL_nil,size_int,size_bool,size_str]
 try omega
end Go.Proofs.YtnnnemgbgilfaaaDoor.W
end
section
open Go Go.Ab
namespace Go.Proofs.YtnnnemgbgilfaaaDoor.W
structure SheetRule where
 Key:List UInt8
 Args:List Int
 Many:Bool
 Default:List (List UInt8)
def SheetRule.ts (x:SheetRule):List T:=[.str x.Key,.lst 1 (x.Args.map tInt),.bool x.Many,.lst 1 (x.Default.map tStr)]
abbrev SheetRule.vs (x:SheetRule):List V:=[.t (.str x.Key),.t (.lst 1 (x.Args.map tInt)),.t (.bool x.Many),.t (.lst 1 (x.Default.map tStr))]
structure SheetRule.Ok (x:SheetRule):Prop where
 Key:x.Key.length≤1048576
 Args:IntsOk x.Args
 Default:StrsOk x.Default
abbrev tSheetRuleS (l:List SheetRule):T:=.lst 4 (l.map SheetRule.ts)
abbrev SheetRule.OkS (l:List SheetRule):Prop:=l.length≤1048576∧∀ y∈l,y.Ok
structure SheetLine where
 Key:List UInt8
 Words:List (List UInt8)
def SheetLine.ts (x:SheetLine):List T:=[.str x.Key,.lst 1 (x.Words.map tStr)]
abbrev SheetLine.vs (x:SheetLine):List V:=[.t (.str x.Key),.t (.lst 1 (x.Words.map tStr))]
structure SheetLine.Ok (x:SheetLine):Prop where
 Key:x.Key.length≤1048576
 Words:StrsOk x.Words
abbrev tSheetLineS (l:List SheetLine):T:=.lst 2 (l.map SheetLine.ts)
abbrev SheetLine.OkS (l:List SheetLine):Prop:=l.length≤1048576∧∀ y∈l,y.Ok
structure SheetBlock where
 Kind:List UInt8
 Name:List UInt8
 Lines:List SheetLine
def SheetBlock.ts (x:SheetBlock):List T:=[.str x.Kind,.str x.Name,.lst 2 (x.Lines.map SheetLine.ts)]
abbrev SheetBlock.vs (x:SheetBlock):List V:=[.t (.str x.Kind),.t (.str x.Name),.t (.lst 2 (x.Lines.map SheetLine.ts))]
structure SheetBlock.Ok (x:SheetBlock):Prop where
 Kind:x.Kind.length≤1048576
 Name:x.Name.length≤1048576
 Lines:SheetLine.OkS x.Lines
abbrev tSheetBlockS (l:List SheetBlock):T:=.lst 3 (l.map SheetBlock.ts)
abbrev SheetBlock.OkS (l:List SheetBlock):Prop:=l.length≤1048576∧∀ y∈l,y.Ok
structure Sheet where
 Blocks:List SheetBlock
def Sheet.ts (x:Sheet):List T:=[.lst 3 (x.Blocks.map SheetBlock.ts)]
abbrev Sheet.vs (x:Sheet):List V:=[.t (.lst 3 (x.Blocks.map SheetBlock.ts))]
structure Sheet.Ok (x:Sheet):Prop where
 Blocks:SheetBlock.OkS x.Blocks
abbrev Sheet.OkS (l:List Sheet):Prop:=l.length≤1048576∧∀ y∈l,y.Ok
end Go.Proofs.YtnnnemgbgilfaaaDoor.W
end
