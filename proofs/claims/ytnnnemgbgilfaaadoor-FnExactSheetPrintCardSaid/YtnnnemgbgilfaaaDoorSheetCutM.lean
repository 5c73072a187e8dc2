/- Words of a line: how they are cut and written, on lists of bytes. Conditions: none. -/
import Derived.Test.YtnnnemgbgilfaaaDoorAb4
import Derived.KernelRfl
set_option linter.unusedSimpArgs false
set_option linter.unusedVariables false
set_option linter.defProp false
open Go Go.Ab
set_option maxHeartbeats 2000000
namespace Go.Proofs.YtnnnemgbgilfaaaDoor.W
def bareB (c : UInt8) : Bool := decide (33 ≤ (c.toNat : Int)) && decide ((c.toNat : Int) ≤ 126) && !((c.toNat : Int) == 34) && !((c.toNat : Int) == 35) && !((c.toNat : Int) == 92)
def selfB (c : UInt8) : Bool := decide (32 ≤ (c.toNat : Int)) && decide ((c.toNat : Int) ≤ 126) && !((c.toNat : Int) == 34) && !((c.toNat : Int) == 92)
def hexS : List UInt8 := [48, 49, 50, 51, 52, 53, 54, 55, 56, 57, 97, 98, 99, 100, 101, 102]
def hexD (n : Nat) : UInt8 := (hexS[n]?).getD 0
def enc1 (c : UInt8) : List UInt8 := if selfB c = true then [c] else [92, hexD (c.toNat / 16), hexD (c.toNat % 16)]
def encW (w : List UInt8) : List UInt8 := if (!(w == []) && w.all bareB) = true then w else 34 :: (w.flatMap enc1 ++ [34])
end Go.Proofs.YtnnnemgbgilfaaaDoor.W
