/- A contract of the model's own kind is one of this logic; variables of the program that are known. Conditions: none (a library of lemmas). -/
import Derived.Test.YtnnnemgbgilfaaaDoorAb5
import Derived.Lib.LaidTab
import Derived.Sort.Grow
import Derived.Deep.Draws
set_option linter.unusedSimpArgs false
set_option linter.unusedVariables false
set_option linter.defProp false
namespace Go.Ab
open Go.RowKit
def VarAt (P:Program) (name:String) (cs:Array Value) (σ:Store):Prop:=∃ (i b:Nat) (ty:TypeId) (fr:Nat × Nat),P.globalNamed name=some b∧σ[i]?=some (.glob b (.cells cs ty fr))
theorem VarAt.app {P:Program} {name:String} {cs:Array Value} {σ:Store} (h:VarAt P name cs σ) (τ:Store):VarAt P name cs (σ++τ):=by
 obtain ⟨i,b,ty,fr,h1,h2⟩:=h
 exact ⟨i,b,ty,fr,h1,by rw [List.getElem?_append_left (List.getElem?_eq_some_iff.1 h2).1]; exact h2⟩
theorem VarAt.set {P:Program} {name:String} {cs:Array Value} {σ:Store} (h:VarAt P name cs σ) {j:Nat} {o o':Obj} (hj:σ[j]?=some o) (ho:∀ b q,o≠.glob b q):VarAt P name cs (σ.set j o'):=by
 obtain ⟨i,b,ty,fr,h1,h2⟩:=h
 refine ⟨i,b,ty,fr,h1,?_⟩
 rw [List.getElem?_set_ne (fun e=>?_)]
 ·exact h2
 ·subst e
  rw [hj] at h2
  exact ho _ _ (Option.some.inj h2)
theorem VarAt.kp {P:Program} {name:String} {cs:Array Value} {σ s:Store} (h:VarAt P name cs σ) (hk:Kp σ s):VarAt P name cs s:=by
 obtain ⟨i,b,ty,fr,h1,h2⟩:=h
 exact ⟨i,b,ty,fr,h1,by rw [hk i (List.getElem?_eq_some_iff.1 h2).1]; exact h2⟩
end Go.Ab
